/- What the functions do, part 2. -/
import Derived.Test.YtcdbdmokaihcoaaFna
set_option linter.unusedVariables false
set_option linter.unusedSimpArgs false
namespace Go.Proofs.Ytcdbdmokaihcoaa
open Go.RowKit Go.Bv
def pspec_l03Any_L1 (k : Nat) (vv : GL01Cur × Int) : Nat → Int → GTerm → Option (Out (GL01Cur × GTerm) GTerm)
  | 0, _, _ => none
  | m + 1, u2q, u1f =>
    if (4 : Int) ≠ 0 then
      if (decide (u2q < (wr.i64 (38 + (Int.tmod vv.2 4))))) = true then
        pspec_l03Any_L1 k vv m (wr.i64 (u2q + 1)) (GTerm.mk 4 (bs [115]) 0 [u1f])
      else
        some (.done u1f)
    else none
def pspec_l03Any (k : Nat) (u95 : GL01Cur) : Option (GL01Cur × GTerm) :=
  (pspec_l01Below k u95 12).bind fun zv =>
  (pspec_l01Below k zv.1 60).bind fun vv =>
  (pspec_l03Made k vv.1 3).bind fun u5 =>
  if (zv.2 == 0) = true then
    if (6 : Int) ≠ 0 then
      some (u5.1, GTerm.mk (Int.tmod vv.2 6) u5.2.gName u5.2.gNum u5.2.gKids)
    else none
  else
    if (zv.2 == 1) = true then
      if (4 : Int) ≠ 0 then
        (at' [(bs []), (bs [97, 32, 98]), (bs [39]), (bs [97, 97, 97, 97, 97, 97, 97, 97, 97, 97, 97, 97, 97, 97, 97, 97, 97, 97, 97, 97, 97])] (Int.tmod vv.2 4)).bind fun u6o =>
        some (u5.1, GTerm.mk u5.2.gKind u6o u5.2.gNum u5.2.gKids)
      else none
    else
      if (zv.2 == 2) = true then
        if (3 : Int) ≠ 0 then
          (at' [-1, 100000, 1000000000] (Int.tmod vv.2 3)).bind fun u6p =>
          some (u5.1, GTerm.mk u5.2.gKind u5.2.gName u6p u5.2.gKids)
        else none
      else
        if (zv.2 == 3) = true then
          (pspec_l03Any_L1 k vv k 0 u5.2).bind fun out1 => match out1 with
          | .ret r => some r
          | .done u6q =>
            some (u5.1, u6q)
        else
          some (u5.1, u5.2)
set_option maxHeartbeats 4000000 in
theorem cspec_l03Any {k : Nat} {u95 : GL01Cur} {r : GL01Cur × GTerm} (h : pspec_l03Any k u95 = some r) : FnO Try.prog 46 [.p (GL01Cur.q u95) []] (.v (.agg (GTerm.q r.2)) [(3, .app 26)]) [(0, .p (GL01Cur.q r.1) [])] := by
  refine FnO.o2 Try.func46 (rfl : Try.f46.body = some _) ?_
  intro w0 X0 Fin pv0 pb gt
  unfold pspec_l03Any at h
  apply Wc.seq
  refine Wc.r0 ⟨[tP 0 1000000, tP 2 2], [(2, .cells GTerm.z [(3, .app 26)]), bC 1000000 (GL01Cur.q u95)], []⟩ ?_
  apply Wc.seq
  obtain ⟨zv, h382, h⟩ := obind h
  refine Wc.r2 [{}, { r := some (.v (aI zv.2) []), outs := [(0, .p (GL01Cur.q zv.1) [])] }] ⟨[tP 0 1000000, tP 2 2, tI 3 zv.2], [(2, .cells GTerm.z [(3, .app 26)]), bC 1000000 (GL01Cur.q zv.1)], []⟩ (.cons (cspec_l01Below h382) .nil) ?_
  apply Wc.seq
  obtain ⟨vv, h383, h⟩ := obind h
  refine Wc.r2 [{}, { r := some (.v (aI vv.2) []), outs := [(0, .p (GL01Cur.q vv.1) [])] }] ⟨[tP 0 1000000, tP 2 2, tI 3 zv.2, tI 4 vv.2], [(2, .cells GTerm.z [(3, .app 26)]), bC 1000000 (GL01Cur.q vv.1)], []⟩ (.cons (cspec_l01Below h383) .nil) ?_
  apply Wc.seq
  obtain ⟨u5, h384, h⟩ := obind h
  refine Wc.r2 [{}, { r := some (.v (.agg (GTerm.q u5.2)) [(3, .app 26)]), outs := [(0, .p (GL01Cur.q u5.1) [])] }, {}, { tk := [12] }] ⟨[tP 2 2, tI 3 zv.2, tI 4 vv.2, tP 5 5], [(2, .cells GTerm.z [(3, .app 26)]), (5, .cells (GTerm.q u5.2) [(3, .app 26)]), bC 1000000 (GL01Cur.q u5.1)], []⟩ (.cons (cspec_l03Made h384) .nil) ?_
  apply Wc.seq
  apply Wc.seq
  refine Wc.r0 ⟨[tP 2 2, tI 4 vv.2, tP 5 5, tI 13 zv.2], [(2, .cells GTerm.z [(3, .app 26)]), (5, .cells (GTerm.q u5.2) [(3, .app 26)]), bC 1000000 (GL01Cur.q u5.1)], []⟩ ?_
  refine Wc.block ?_
  apply Wc.seq
  refine Wc.r0 ⟨[tP 2 2, tI 4 vv.2, tP 5 5, tI 13 zv.2, tB 14 (zv.2 == 0)], [(2, .cells GTerm.z [(3, .app 26)]), (5, .cells (GTerm.q u5.2) [(3, .app 26)]), bC 1000000 (GL01Cur.q u5.1)], []⟩ ?_
  rcases oif h with ⟨h385, h⟩ | ⟨h385, h⟩
  · refine Wc.cT h385 ?_
    obtain ⟨h386, h⟩ := oguard h
    refine Wc.r2 [] ⟨[tP 2 2, tP 5 5], [(2, .cells GTerm.z [(3, .app 26)]), (5, .cells [aI (Int.tmod vv.2 6), .str u5.2.gName, aI u5.2.gNum, .sl (List.map GTerm.c u5.2.gKids)] [(3, .app 26)]), bC 1000000 (GL01Cur.q u5.1)], []⟩ (.cons h386 .nil) ?_
    apply Wc.seq
    refine Wc.r1 [{ md := 1 }, { tk := [47] }] ⟨[tP 2 2], [(2, .cells [aI (Int.tmod vv.2 6), .str u5.2.gName, aI u5.2.gNum, .sl (List.map GTerm.c u5.2.gKids)] [(3, .app 26)]), bC 1000000 (GL01Cur.q u5.1)], []⟩ ?_
    obtain rfl := Option.some.inj h; exact Wc.ret dn
  · refine Wc.cF h385 ?_
    apply Wc.seq
    refine Wc.r0 ⟨[tP 2 2, tI 4 vv.2, tP 5 5, tI 13 zv.2, tB 19 (zv.2 == 1)], [(2, .cells GTerm.z [(3, .app 26)]), (5, .cells (GTerm.q u5.2) [(3, .app 26)]), bC 1000000 (GL01Cur.q u5.1)], []⟩ ?_
    rcases oif h with ⟨h387, h⟩ | ⟨h387, h⟩
    · refine Wc.cT h387 ?_
      obtain ⟨h388, h⟩ := oguard h
      obtain ⟨u6o, h389, h⟩ := obind h
      refine Wc.r2 [{ c := some (List.map cS [(bs []), (bs [97, 32, 98]), (bs [39]), (bs [97, 97, 97, 97, 97, 97, 97, 97, 97, 97, 97, 97, 97, 97, 97, 97, 97, 97, 97, 97, 97])]) }, {}, {}, { v := some (.vptr [.str u6o]) }] ⟨[tP 2 2, tP 5 5], [(2, .cells GTerm.z [(3, .app 26)]), (5, .cells [aI u5.2.gKind, .str u6o, aI u5.2.gNum, .sl (List.map GTerm.c u5.2.gKids)] [(3, .app 26)]), bC 1000000 (GL01Cur.q u5.1)], []⟩ (.cons (cl_cons (c := cS) (x := (bs [])) rfl (cl_cons (c := cS) (x := (bs [97, 32, 98])) rfl (cl_cons (c := cS) (x := (bs [39])) rfl (cl_cons (c := cS) (x := (bs [97, 97, 97, 97, 97, 97, 97, 97, 97, 97, 97, 97, 97, 97, 97, 97, 97, 97, 97, 97, 97])) rfl (cl_nil cS))))) (.cons h388 (.cons (at_obl (c := cS) rfl cS_len h389) (.cons (len_ok 1 [.str u6o]) .nil)))) ?_
      apply Wc.seq
      refine Wc.r1 [{ md := 1 }, { tk := [47] }] ⟨[tP 2 2], [(2, .cells [aI u5.2.gKind, .str u6o, aI u5.2.gNum, .sl (List.map GTerm.c u5.2.gKids)] [(3, .app 26)]), bC 1000000 (GL01Cur.q u5.1)], []⟩ ?_
      obtain rfl := Option.some.inj h; exact Wc.ret dn
    · refine Wc.cF h387 ?_
      apply Wc.seq
      refine Wc.r0 ⟨[tP 2 2, tI 4 vv.2, tP 5 5, tI 13 zv.2, tB 27 (zv.2 == 2)], [(2, .cells GTerm.z [(3, .app 26)]), (5, .cells (GTerm.q u5.2) [(3, .app 26)]), bC 1000000 (GL01Cur.q u5.1)], []⟩ ?_
      rcases oif h with ⟨h390, h⟩ | ⟨h390, h⟩
      · refine Wc.cT h390 ?_
        obtain ⟨h391, h⟩ := oguard h
        obtain ⟨u6p, h392, h⟩ := obind h
        refine Wc.r2 [{ c := some (List.map cI.i64 [-1, 100000, 1000000000]) }, {}, {}, { v := some (.vptr [aI u6p]) }] ⟨[tP 2 2, tP 5 5], [(2, .cells GTerm.z [(3, .app 26)]), (5, .cells [aI u5.2.gKind, .str u5.2.gName, aI u6p, .sl (List.map GTerm.c u5.2.gKids)] [(3, .app 26)]), bC 1000000 (GL01Cur.q u5.1)], []⟩ (.cons (cl_cons (c := cI.i64) (x := -1) rfl (cl_cons (c := cI.i64) (x := 100000) rfl (cl_cons (c := cI.i64) (x := 1000000000) rfl (cl_nil cI.i64)))) (.cons h391 (.cons (at_obl (c := cI.i64) rfl cI.i64_len h392) (.cons (len_ok 1 [aI u6p]) .nil)))) ?_
        apply Wc.seq
        refine Wc.r1 [{ md := 1 }, { tk := [47] }] ⟨[tP 2 2], [(2, .cells [aI u5.2.gKind, .str u5.2.gName, aI u6p, .sl (List.map GTerm.c u5.2.gKids)] [(3, .app 26)]), bC 1000000 (GL01Cur.q u5.1)], []⟩ ?_
        obtain rfl := Option.some.inj h; exact Wc.ret dn
      · refine Wc.cF h390 ?_
        apply Wc.seq
        refine Wc.r0 ⟨[tP 2 2, tI 4 vv.2, tP 5 5, tB 35 (zv.2 == 3)], [(2, .cells GTerm.z [(3, .app 26)]), (5, .cells (GTerm.q u5.2) [(3, .app 26)]), bC 1000000 (GL01Cur.q u5.1)], []⟩ ?_
        rcases oif h with ⟨h393, h⟩ | ⟨h393, h⟩
        · refine Wc.cT h393 ?_
          apply Wc.seq
          refine Wc.r0 ⟨[tP 2 2, tI 4 vv.2, tP 5 5, tI 6 0], [(2, .cells GTerm.z [(3, .app 26)]), (5, .cells (GTerm.q u5.2) [(3, .app 26)]), bC 1000000 (GL01Cur.q u5.1)], []⟩ ?_
          obtain ⟨out1, h394, h⟩ := obind h
          refine Wc.lastJ (fun st => ∃ (u6q : GTerm), out1 = .done u6q ∧ st = ⟨[tP 2 2, tP 5 5], [(2, .cells GTerm.z [(3, .app 26)]), (5, .cells (GTerm.q u6q) [(3, .app 26)]), bC 1000000 (GL01Cur.q u5.1)], []⟩) ?_ ?_
          · refine Wc.block ?_
            refine Wc.loop (fun m st => ∃ (u2q : Int) (u1f : GTerm), st = ⟨[tP 2 2, tI 4 vv.2, tP 5 5, tI 6 u2q], [(2, .cells GTerm.z [(3, .app 26)]), (5, .cells (GTerm.q u1f) [(3, .app 26)]), bC 1000000 (GL01Cur.q u5.1)], []⟩ ∧ pspec_l03Any_L1 k vv m u2q u1f = some out1) ?_ k ⟨_, _, rfl, h394⟩
            rintro m st ⟨u2q, u1f, rfl, h394⟩
            cases m with
            | zero => exact (onone h394).elim
            | succ m =>
              apply Wc.seq
              apply Wc.seq
              obtain ⟨h395, h394⟩ := oguard h394
              refine Wc.r2 [] ⟨[tP 2 2, tI 4 vv.2, tP 5 5, tI 6 u2q, tB 41 (decide (u2q < (wr.i64 (38 + (Int.tmod vv.2 4)))))], [(2, .cells GTerm.z [(3, .app 26)]), (5, .cells (GTerm.q u1f) [(3, .app 26)]), bC 1000000 (GL01Cur.q u5.1)], []⟩ (.cons h395 .nil) ?_
              rcases oif h394 with ⟨h396, h394⟩ | ⟨h396, h394⟩
              · refine Wc.cT h396 ?_
                refine Wc.fx [] ⟨[tP 2 2, tI 4 vv.2, tP 5 5, tI 6 u2q], [(2, .cells GTerm.z [(3, .app 26)]), (5, .cells (GTerm.q u1f) [(3, .app 26)]), bC 1000000 (GL01Cur.q u5.1)], []⟩ ?_
                refine Wc.skip ?_
                apply Wc.seq
                refine Wc.block ?_
                refine Wc.r2 [{}, { c := some (List.map GTerm.c [u1f]) }, { tk := [45] }, { tk := [46] }] ⟨[tP 2 2, tI 4 vv.2, tP 5 5, tI 6 u2q], [(2, .cells GTerm.z [(3, .app 26)]), (5, .cells [aI 4, .str (bs [115]), aI 0, .sl (List.map GTerm.c [u1f])] [(3, .app 26)]), bC 1000000 (GL01Cur.q u5.1)], []⟩ (.cons (cl_cons (c := GTerm.c) (x := u1f) (GTerm.c_eq u1f) (cl_nil GTerm.c)) .nil) ?_
                refine Wc.r0 ⟨[tP 2 2, tI 4 vv.2, tP 5 5, tI 6 (wr.i64 (u2q + 1))], [(2, .cells GTerm.z [(3, .app 26)]), (5, .cells [aI 4, .str (bs [115]), aI 0, .sl (List.map GTerm.c [u1f])] [(3, .app 26)]), bC 1000000 (GL01Cur.q u5.1)], []⟩ ?_
                exact ⟨_, Nat.lt_succ_self _, _, _, rfl, h394⟩
              · refine Wc.cF h396 ?_
                refine Wc.fx [] ⟨[tP 2 2, tP 5 5], [(2, .cells GTerm.z [(3, .app 26)]), (5, .cells (GTerm.q u1f) [(3, .app 26)]), bC 1000000 (GL01Cur.q u5.1)], []⟩ ?_
                refine Wc.exit ?_
                obtain rfl := Option.some.inj h394
                exact ⟨_, rfl, rfl⟩
          · rintro st ⟨u6q, rfl, rfl⟩
            apply Wc.seq
            refine Wc.r1 [{ md := 1 }, { tk := [47] }] ⟨[tP 2 2], [(2, .cells (GTerm.q u6q) [(3, .app 26)]), bC 1000000 (GL01Cur.q u5.1)], []⟩ ?_
            obtain rfl := Option.some.inj h; exact Wc.ret dn
        · refine Wc.cF h393 ?_
          refine Wc.fx [] ⟨[tP 2 2, tP 5 5], [(2, .cells GTerm.z [(3, .app 26)]), (5, .cells (GTerm.q u5.2) [(3, .app 26)]), bC 1000000 (GL01Cur.q u5.1)], []⟩ ?_
          refine Wc.skip ?_
          apply Wc.seq
          refine Wc.r1 [{ md := 1 }, { tk := [47] }] ⟨[tP 2 2], [(2, .cells (GTerm.q u5.2) [(3, .app 26)]), bC 1000000 (GL01Cur.q u5.1)], []⟩ ?_
          obtain rfl := Option.some.inj h; exact Wc.ret dn

def pspec_BindsNew_J1 (k : Nat) (u12 : Int) : Option GBinds :=
  if (decide (u12 > 5000)) = true then
    if 0 ≤ (5000 : Int) ∧ (5000 : Int) ≤ 1073741824 then
      some (GBinds.mk (List.replicate ((5000 : Int)).toNat (GTerm.mk 0 (bs []) 0 [])))
    else none
  else
    if 0 ≤ u12 ∧ u12 ≤ 1073741824 then
      some (GBinds.mk (List.replicate (u12).toNat (GTerm.mk 0 (bs []) 0 [])))
    else none
def pspec_BindsNew (k : Nat) (u3u : Int) : Option GBinds :=
  if (decide (u3u < 0)) = true then
    pspec_BindsNew_J1 k 0
  else
    pspec_BindsNew_J1 k u3u
theorem cspec_BindsNew {k : Nat} {u3u : Int} {r : GBinds} (h : pspec_BindsNew k u3u = some r) : FnO Try.prog 18 [.v (aI u3u) []] (.v (.agg [.sl (List.map GTerm.c r.gList)]) []) [] := by
  refine FnO.o2 Try.func18 (rfl : Try.f18.body = some _) ?_
  intro w0 X0 Fin pv0 pb gt
  unfold pspec_BindsNew at h
  apply Wc.seq
  refine Wc.r0 ⟨[tI 0 u3u, tP 2 2], [(2, .cells GBinds.z [(0, .app 26)])], []⟩ ?_
  refine Wc.seqJ (fun st => ∃ (u12 : Int), st = ⟨[tI 0 u12, tP 2 2], [(2, .cells GBinds.z [(0, .app 26)])], []⟩ ∧ pspec_BindsNew_J1 k u12 = some r) ?_ ?_
  · apply Wc.seq
    refine Wc.r0 ⟨[tI 0 u3u, tP 2 2, tB 4 (decide (u3u < 0))], [(2, .cells GBinds.z [(0, .app 26)])], []⟩ ?_
    rcases oif h with ⟨h400, h⟩ | ⟨h400, h⟩
    · refine Wc.cT h400 ?_
      refine Wc.r0 ⟨[tI 0 0, tP 2 2], [(2, .cells GBinds.z [(0, .app 26)])], []⟩ ?_
      exact ⟨_, rfl, h⟩
    · refine Wc.cF h400 ?_
      refine Wc.fx [] ⟨[tI 0 u3u, tP 2 2], [(2, .cells GBinds.z [(0, .app 26)])], []⟩ ?_
      refine Wc.skip ?_
      exact ⟨_, rfl, h⟩
  · rintro st ⟨u12, rfl, h⟩
    apply Wc.seq
    apply Wc.seq
    refine Wc.r0 ⟨[tI 0 u12, tP 2 2, tB 6 (decide (u12 > 5000))], [(2, .cells GBinds.z [(0, .app 26)])], []⟩ ?_
    rcases oif h with ⟨h397, h⟩ | ⟨h397, h⟩
    · refine Wc.cT h397 ?_
      refine Wc.r0 ⟨[tI 0 5000, tP 2 2], [(2, .cells GBinds.z [(0, .app 26)])], []⟩ ?_
      apply Wc.seq
      obtain ⟨h398, h⟩ := oguard h
      refine Wc.r2 [{}, { c := some (List.map GTerm.c (List.replicate ((5000 : Int)).toNat (GTerm.mk 0 (bs []) 0 []))) }, { tk := [8], fx := [.ag (.t 8 0)] }, { tk := [9] }] ⟨[tP 2 2], [(2, .cells [.slx] [(0, .ex 26 false (List.map GTerm.c (List.replicate ((5000 : Int)).toNat (GTerm.mk 0 (bs []) 0 []))))])], []⟩ (.cons (rep_re (c := GTerm.c) (z := (GTerm.mk 0 (bs []) 0 [])) (GTerm.c_eq (GTerm.mk 0 (bs []) 0 [])) ((5000 : Int)).toNat) (.cons (ms_obl h398) .nil)) ?_
      refine Wc.fx [.sh (.b 2 0)] ⟨[tP 2 2], [bC 2 [.sl (List.map GTerm.c (List.replicate ((5000 : Int)).toNat (GTerm.mk 0 (bs []) 0 [])))]], []⟩ ?_
      obtain rfl := Option.some.inj h; exact Wc.ret dn
    · refine Wc.cF h397 ?_
      refine Wc.fx [] ⟨[tI 0 u12, tP 2 2], [(2, .cells GBinds.z [(0, .app 26)])], []⟩ ?_
      refine Wc.skip ?_
      apply Wc.seq
      obtain ⟨h399, h⟩ := oguard h
      refine Wc.r2 [{}, { c := some (List.map GTerm.c (List.replicate (u12).toNat (GTerm.mk 0 (bs []) 0 []))) }, { tk := [8], fx := [.ag (.t 8 0)] }, { tk := [9] }] ⟨[tP 2 2], [(2, .cells [.slx] [(0, .ex 26 false (List.map GTerm.c (List.replicate (u12).toNat (GTerm.mk 0 (bs []) 0 []))))])], []⟩ (.cons (rep_re (c := GTerm.c) (z := (GTerm.mk 0 (bs []) 0 [])) (GTerm.c_eq (GTerm.mk 0 (bs []) 0 [])) (u12).toNat) (.cons (ms_obl h399) .nil)) ?_
      refine Wc.fx [.sh (.b 2 0)] ⟨[tP 2 2], [bC 2 [.sl (List.map GTerm.c (List.replicate (u12).toNat (GTerm.mk 0 (bs []) 0 [])))]], []⟩ ?_
      obtain rfl := Option.some.inj h; exact Wc.ret dn

def pspec_l04Walk_L1 (k : Nat) (za : List GTerm) : Nat → Int → GTerm → Option (Out GTerm GTerm)
  | 0, _, _ => none
  | m + 1, u13, zk =>
    if (decide (u13 < 5000)) = true then
      if (zk.gKind != 1) = true then
        some (.done zk)
      else
        (pspec_l01In k zk.gNum 0 (wr.i64 ((za.length : Int) - 1))).bind fun ubp =>
        if (!ubp) = true then
          some (.done zk)
        else
          (at' za zk.gNum).bind fun u6r =>
          if (u6r.gKind == 0) = true then
            some (.done zk)
          else
            (at' za zk.gNum).bind fun u4s =>
            pspec_l04Walk_L1 k za m (wr.i64 (u13 + 1)) u4s
    else
      some (.done zk)
def pspec_l04Walk (k : Nat) (za : List GTerm) (u6s : GTerm) : Option GTerm :=
  (pspec_l04Walk_L1 k za k 0 u6s).bind fun out1 => match out1 with
  | .ret r => some r
  | .done u6t =>
    some u6t
theorem cspec_l04Walk {k : Nat} {za : List GTerm} {u6s : GTerm} {r : GTerm} (h : pspec_l04Walk k za u6s = some r) : FnO Try.prog 53 [.v (.sl (List.map GTerm.c za)) [], .v (.agg (GTerm.q u6s)) []] (.v (.agg (GTerm.q r)) []) [] := by
  refine FnO.o2 Try.func53 (rfl : Try.f53.body = some _) ?_
  intro w0 X0 Fin pv0 pb gt
  unfold pspec_l04Walk at h
  apply Wc.seq
  refine Wc.r0 ⟨[tV 0 (.sl (List.map GTerm.c za)), tP 3 3, tP 4 4], [bC 3 (GTerm.q u6s), (4, .cells GTerm.z [(3, .app 26)])], []⟩ ?_
  apply Wc.seq
  apply Wc.seq
  refine Wc.r0 ⟨[tV 0 (.sl (List.map GTerm.c za)), tP 3 3, tP 4 4, tI 5 0], [bC 3 (GTerm.q u6s), (4, .cells GTerm.z [(3, .app 26)])], []⟩ ?_
  obtain ⟨out1, h401, h⟩ := obind h
  refine Wc.lastJ (fun st => ∃ (u6t : GTerm), out1 = .done u6t ∧ st = ⟨[tP 3 3, tP 4 4], [bC 3 (GTerm.q u6t), (4, .cells GTerm.z [(3, .app 26)])], []⟩) ?_ ?_
  · refine Wc.block ?_
    refine Wc.loop (fun m st => ∃ (u13 : Int) (zk : GTerm), st = ⟨[tV 0 (.sl (List.map GTerm.c za)), tP 3 3, tP 4 4, tI 5 u13], [bC 3 (GTerm.q zk), (4, .cells GTerm.z [(3, .app 26)])], []⟩ ∧ pspec_l04Walk_L1 k za m u13 zk = some out1) ?_ k ⟨_, _, rfl, h401⟩
    rintro m st ⟨u13, zk, rfl, h401⟩
    cases m with
    | zero => exact (onone h401).elim
    | succ m =>
      apply Wc.seq
      apply Wc.seq
      refine Wc.r0 ⟨[tV 0 (.sl (List.map GTerm.c za)), tP 3 3, tP 4 4, tI 5 u13, tB 7 (decide (u13 < 5000))], [bC 3 (GTerm.q zk), (4, .cells GTerm.z [(3, .app 26)])], []⟩ ?_
      rcases oif h401 with ⟨h402, h401⟩ | ⟨h402, h401⟩
      · refine Wc.cT h402 ?_
        refine Wc.fx [] ⟨[tV 0 (.sl (List.map GTerm.c za)), tP 3 3, tP 4 4, tI 5 u13], [bC 3 (GTerm.q zk), (4, .cells GTerm.z [(3, .app 26)])], []⟩ ?_
        refine Wc.skip ?_
        apply Wc.seq
        refine Wc.block ?_
        apply Wc.seq
        apply Wc.seq
        rcases oif h401 with ⟨h403, h401⟩ | ⟨h403, h401⟩
        · refine Wc.r2 [{}, {}, {}, { re := some (.bool true) }] ⟨[tV 0 (.sl (List.map GTerm.c za)), tP 3 3, tP 4 4, tI 5 u13, tB 30 true], [bC 3 (GTerm.q zk), (4, .cells GTerm.z [(3, .app 26)])], []⟩ (.cons (congrArg AV.bool h403) .nil) ?_
          refine Wc.cT rfl ?_
          refine Wc.fx [] ⟨[tP 3 3, tP 4 4], [bC 3 (GTerm.q zk), (4, .cells GTerm.z [(3, .app 26)])], []⟩ ?_
          refine Wc.exit ?_
          obtain rfl := Option.some.inj h401
          exact ⟨_, rfl, rfl⟩
        · obtain ⟨ubp, h404, h401⟩ := obind h401
          rcases oif h401 with ⟨h405, h401⟩ | ⟨h405, h401⟩
          · refine Wc.r2 [{}, {}, {}, { re := some (.bool false) }, {}, {}, {}, { v := some (aI (za.length : Int)) }, {}, { r := some (.v (.bool ubp) []) }, {}, {}, { re := some (.bool true) }] ⟨[tV 0 (.sl (List.map GTerm.c za)), tP 3 3, tP 4 4, tI 5 u13, tB 30 true], [bC 3 (GTerm.q zk), (4, .cells GTerm.z [(3, .app 26)])], []⟩ (.cons (congrArg AV.bool h403) (.cons (len_obl GTerm.c za) (.cons (cspec_l01In h404) (.cons (congrArg AV.bool h405) .nil)))) ?_
            refine Wc.cT rfl ?_
            refine Wc.fx [] ⟨[tP 3 3, tP 4 4], [bC 3 (GTerm.q zk), (4, .cells GTerm.z [(3, .app 26)])], []⟩ ?_
            refine Wc.exit ?_
            obtain rfl := Option.some.inj h401
            exact ⟨_, rfl, rfl⟩
          · obtain ⟨u6r, h406, h401⟩ := obind h401
            refine Wc.r2 [{}, {}, {}, { re := some (.bool false) }, {}, {}, {}, { v := some (aI (za.length : Int)) }, {}, { r := some (.v (.bool ubp) []) }, {}, {}, { re := some (.bool false) }, {}, {}, {}, { v := some (.vptr (GTerm.q u6r)) }] ⟨[tV 0 (.sl (List.map GTerm.c za)), tP 3 3, tP 4 4, tI 5 u13, tB 30 (u6r.gKind == 0)], [bC 3 (GTerm.q zk), (4, .cells GTerm.z [(3, .app 26)])], []⟩ (.cons (congrArg AV.bool h403) (.cons (len_obl GTerm.c za) (.cons (cspec_l01In h404) (.cons (congrArg AV.bool h405) (.cons (at_obl (c := GTerm.c) (GTerm.c_eq u6r) GTerm.c_len h406) (.cons (len_ok 1 (GTerm.q u6r)) .nil)))))) ?_
            rcases oif h401 with ⟨h407, h401⟩ | ⟨h407, h401⟩
            · refine Wc.cT h407 ?_
              refine Wc.fx [] ⟨[tP 3 3, tP 4 4], [bC 3 (GTerm.q zk), (4, .cells GTerm.z [(3, .app 26)])], []⟩ ?_
              refine Wc.exit ?_
              obtain rfl := Option.some.inj h401
              exact ⟨_, rfl, rfl⟩
            · refine Wc.cF h407 ?_
              refine Wc.fx [] ⟨[tV 0 (.sl (List.map GTerm.c za)), tP 3 3, tP 4 4, tI 5 u13], [bC 3 (GTerm.q zk), (4, .cells GTerm.z [(3, .app 26)])], []⟩ ?_
              refine Wc.skip ?_
              obtain ⟨u4s, h408, h401⟩ := obind h401
              refine Wc.r2 [{}, {}, {}, { v := some (.vptr (GTerm.q u4s)) }] ⟨[tV 0 (.sl (List.map GTerm.c za)), tP 3 3, tP 4 4, tI 5 u13], [bC 3 (GTerm.q u4s), (4, .cells GTerm.z [(3, .app 26)])], []⟩ (.cons (at_obl (c := GTerm.c) (GTerm.c_eq u4s) GTerm.c_len h408) (.cons (len_ok 4 (GTerm.q u4s)) .nil)) ?_
              refine Wc.r0 ⟨[tV 0 (.sl (List.map GTerm.c za)), tP 3 3, tP 4 4, tI 5 (wr.i64 (u13 + 1))], [bC 3 (GTerm.q u4s), (4, .cells GTerm.z [(3, .app 26)])], []⟩ ?_
              exact ⟨_, Nat.lt_succ_self _, _, _, rfl, h401⟩
      · refine Wc.cF h402 ?_
        refine Wc.fx [] ⟨[tP 3 3, tP 4 4], [bC 3 (GTerm.q zk), (4, .cells GTerm.z [(3, .app 26)])], []⟩ ?_
        refine Wc.exit ?_
        obtain rfl := Option.some.inj h401
        exact ⟨_, rfl, rfl⟩
  · rintro st ⟨u6t, rfl, rfl⟩
    apply Wc.seq
    refine Wc.r0 ⟨[tP 4 4], [bC 4 (GTerm.q u6t)], []⟩ ?_
    obtain rfl := Option.some.inj h; exact Wc.ret dn

def pspec_l04Uni_link (k : Nat) (zg : GL04Uni) (u2d : Int) (u2e : GTerm) : Option (GL04Uni × Bool) :=
  (pspec_l01In k u2d 0 (wr.i64 ((zg.gList.length : Int) - 1))).bind fun ubq =>
  if (!ubq) = true then
    some (zg, false)
  else
    (at' zg.gList u2d).bind fun ucg =>
    some (GL04Uni.mk (zg.gList.set ((u2d).toNat) u2e) zg.gPairs, true)
theorem cspec_l04Uni_link {k : Nat} {hv0 : Value} {zg : GL04Uni} {u2d : Int} {u2e : GTerm} {r : GL04Uni × Bool} (h : pspec_l04Uni_link k zg u2d u2e = some r) : FnO Try.prog 75 [.p [.raw hv0, aI zg.gPairs] (GUnifier.h0_26f zg.gList), .v (aI u2d) [], .v (.agg (GTerm.q u2e)) []] (.v (.bool r.2) []) [(0, .p [.raw hv0, aI r.1.gPairs] (GUnifier.h0_26f r.1.gList))] := by
  refine FnO.o2 Try.func75 (rfl : Try.f75.body = some _) ?_
  intro w0 X0 Fin pv0 pb gt
  unfold pspec_l04Uni_link at h
  apply Wc.seq
  refine Wc.r0 ⟨[tP 0 1000000, tI 1 u2d, tP 5 5], [bC 5 (GTerm.q u2e), (1000000, .cells [.raw hv0, aI zg.gPairs] (GUnifier.h0_26f zg.gList))], []⟩ ?_
  apply Wc.seq
  apply Wc.seq
  obtain ⟨ubq, h409, h⟩ := obind h
  refine Wc.r2 [{}, {}, {}, {}, {}, { v := some (aI (zg.gList.length : Int)) }, {}, { r := some (.v (.bool ubq) []) }] ⟨[tP 0 1000000, tI 1 u2d, tP 5 5, tB 15 (!ubq)], [bC 5 (GTerm.q u2e), (1000000, .cells [.raw hv0, aI zg.gPairs] (GUnifier.h0_26f zg.gList))], []⟩ (.cons (len_obl GTerm.c zg.gList) (.cons (cspec_l01In h409) .nil)) ?_
  rcases oif h with ⟨h410, h⟩ | ⟨h410, h⟩
  · refine Wc.cT h410 ?_
    apply Wc.seq
    refine Wc.r0 ⟨[tB 6 false], [(1000000, .cells [.raw hv0, aI zg.gPairs] (GUnifier.h0_26f zg.gList))], []⟩ ?_
    obtain rfl := Option.some.inj h; exact Wc.ret dn
  · refine Wc.cF h410 ?_
    refine Wc.fx [] ⟨[tP 0 1000000, tI 1 u2d, tP 5 5], [bC 5 (GTerm.q u2e), (1000000, .cells [.raw hv0, aI zg.gPairs] (GUnifier.h0_26f zg.gList))], []⟩ ?_
    refine Wc.skip ?_
    apply Wc.seq
    obtain ⟨ucg, h411, h⟩ := obind h
    refine Wc.every hmix [{}, {}, {}, {}, {}, {}, {}, { c := some (List.map GTerm.c (zg.gList.set ((u2d).toNat) u2e)) }] [] [] [1000000] [] ⟨[], [(1000000, .cells [.raw hv0, aI zg.gPairs] [(0, .ex 26 false (List.map GTerm.c (zg.gList.set ((u2d).toNat) u2e)))])], []⟩ _ 30 (by kernel_rfl) (.cons .nil (.cons .nil (.cons .nil (.cons .nil (.cons .nil (.cons .nil (.cons (.cons (ix_obl (c := GTerm.c) GTerm.c_len h411) .nil) (.cons (.cons (mod_obl (off := 0) (new := (GTerm.q u2e)) (c := GTerm.c) (GTerm.c_eq ucg) (GTerm.c_eq u2e) (at'_spec h411).2 rfl) (.cons (st_obl (sz := 4) (off := 0) (s := 4) (c := GTerm.c) (GTerm.c_eq ucg) (at'_spec h411).2 rfl (Nat.le_of_ble_eq_true rfl)) .nil)) .nil)))))))) ?_
    apply Wc.seq
    refine Wc.r0 ⟨[tB 6 true], [(1000000, .cells [.raw hv0, aI zg.gPairs] [(0, .ex 26 false (List.map GTerm.c (zg.gList.set ((u2d).toNat) u2e)))])], []⟩ ?_
    obtain rfl := Option.some.inj h; exact Wc.ret dn

def pspec_l04Fill_fill_L2 (k : Nat) (rspec_l04Fill_fill : GL04Fill → GTerm → Int → Option (GL04Fill × GTerm)) (up : GTerm) (uw : Int) : Nat → Int → GTerm → GL04Fill → Option (Out (GL04Fill × GTerm) (GTerm × GL04Fill))
  | 0, _, _, _ => none
  | m + 1, u2f, z3, u1g =>
    if (decide (u2f < (up.gKids.length : Int))) = true then
      if (!u1g.gBad) = true then
        (at' up.gKids u2f).bind fun u96 =>
        (rspec_l04Fill_fill u1g u96 (wr.i64 (uw + 1))).bind fun u0d =>
        if z3.gKids.length + [u0d.2].length ≤ 1073741824 then
          pspec_l04Fill_fill_L2 k rspec_l04Fill_fill up uw m (wr.i64 (u2f + 1)) (GTerm.mk z3.gKind z3.gName z3.gNum (z3.gKids ++ [u0d.2])) u0d.1
        else none
      else
        some (.done (z3, u1g))
    else
      some (.done (z3, u1g))
def pspec_l04Fill_fill_J1 (k : Nat) (rspec_l04Fill_fill : GL04Fill → GTerm → Int → Option (GL04Fill × GTerm)) (ue : GL04Fill) (up : GTerm) (uw : Int) (u97 : Bool) : Option (GL04Fill × GTerm) :=
  if u97 = true then
    some (GL04Fill.mk ue.gList (wr.i64 (ue.gLeft - 1)) true, GTerm.mk 0 (bs []) 0 [])
  else
    (pspec_l04Fill_fill_L2 k rspec_l04Fill_fill up uw k 0 (GTerm.mk up.gKind up.gName up.gNum []) (GL04Fill.mk ue.gList (wr.i64 (ue.gLeft - 1)) ue.gBad)).bind fun out2 => match out2 with
    | .ret r => some r
    | .done (u6u, u6v) =>
      some (u6v, u6u)
mutual
def pspec_l04Fill_fill : Nat → GL04Fill → GTerm → Int → Option (GL04Fill × GTerm)
  | 0, _, _, _ => none
  | k + 1, ue, u37, uw =>
    (pspec_l04Walk k ue.gList u37).bind fun up =>
    if ue.gBad = true then
      pspec_l04Fill_fill_J1 k (pspec_l04Fill_fill k) ue up uw true
    else
      if (decide ((wr.i64 (ue.gLeft - 1)) < 0)) = true then
        pspec_l04Fill_fill_J1 k (pspec_l04Fill_fill k) ue up uw true
      else
        if (decide (uw > 40)) = true then
          pspec_l04Fill_fill_J1 k (pspec_l04Fill_fill k) ue up uw true
        else
          (pspec_l03One k up).bind fun ubr =>
          pspec_l04Fill_fill_J1 k (pspec_l04Fill_fill k) ue up uw (!ubr)
end
set_option maxHeartbeats 4000000 in
theorem all_pspec_l04Fill_fill : ∀ k : Nat, (∀ {ue : GL04Fill} {u37 : GTerm} {uw : Int} {r : GL04Fill × GTerm}, pspec_l04Fill_fill k ue u37 uw = some r → FnO Try.prog 48 [.p (GL04Fill.q ue) [], .v (.agg (GTerm.q u37)) [], .v (aI uw) []] (.v (.agg (GTerm.q r.2)) [(3, .app 26)]) [(0, .p (GL04Fill.q r.1) [])]) := by
  intro k
  induction k with
  | zero =>
    · intro ue u37 uw r h
      exact (onone (by rw [pspec_l04Fill_fill] at h; exact h)).elim
  | succ k ih =>
    have ih_pspec_l04Fill_fill := @ih
    · intro ue u37 uw r h
      rw [pspec_l04Fill_fill] at h
      refine FnO.o2 Try.func48 (rfl : Try.f48.body = some _) ?_
      intro w0 X0 Fin pv0 pb gt
      apply Wc.seq
      refine Wc.r0 ⟨[tP 0 1000000, tI 2 uw, tP 4 4, tP 6 6], [bC 4 (GTerm.q u37), (6, .cells GTerm.z [(3, .app 26)]), bC 1000000 (GL04Fill.q ue)], []⟩ ?_
      apply Wc.seq
      obtain ⟨up, h424, h⟩ := obind h
      refine Wc.draw hmix [{}, {}, {}, {}, {}, { r := some (.v (.agg (GTerm.q up)) []) }] [] [0, 2, 4, 6] [4, 6, 1000000] [] ⟨[tP 0 1000000, tI 2 uw, tP 4 4, tP 6 6], [bC 4 (GTerm.q up), (6, .cells GTerm.z [(3, .app 26)]), bC 1000000 (GL04Fill.q ue)], []⟩ _ (by kernel_rfl) (fun X => by kernel_rfl) (.cons (cspec_l04Walk h424) .nil) ?_
      apply Wc.seq
      refine Wc.r0 ⟨[tP 0 1000000, tI 2 uw, tP 4 4, tP 6 6], [bC 4 (GTerm.q up), (6, .cells GTerm.z [(3, .app 26)]), bC 1000000 [.sl (List.map GTerm.c ue.gList), aI (wr.i64 (ue.gLeft - 1)), .bool ue.gBad]], []⟩ ?_
      apply Wc.seq
      refine Wc.seqJ (fun st => ∃ (u97 : Bool), st = ⟨[tP 0 1000000, tI 2 uw, tP 4 4, tP 6 6, tB 42 u97], [bC 4 (GTerm.q up), (6, .cells GTerm.z [(3, .app 26)]), bC 1000000 [.sl (List.map GTerm.c ue.gList), aI (wr.i64 (ue.gLeft - 1)), .bool ue.gBad]], []⟩ ∧ pspec_l04Fill_fill_J1 k (pspec_l04Fill_fill k) ue up uw u97 = some r) ?_ ?_
      · rcases oif h with ⟨h432, h⟩ | ⟨h432, h⟩
        · refine Wc.r2 [{}, {}, {}, {}, { re := some (.bool true) }] ⟨[tP 0 1000000, tI 2 uw, tP 4 4, tP 6 6, tB 42 true], [bC 4 (GTerm.q up), (6, .cells GTerm.z [(3, .app 26)]), bC 1000000 [.sl (List.map GTerm.c ue.gList), aI (wr.i64 (ue.gLeft - 1)), .bool ue.gBad]], []⟩ (.cons (congrArg AV.bool h432) .nil) ?_
          exact ⟨_, rfl, h⟩
        · rcases oif h with ⟨h433, h⟩ | ⟨h433, h⟩
          · refine Wc.r2 [{}, {}, {}, {}, { re := some (.bool false) }, {}, {}, {}, {}, {}, {}, { re := some (.bool true) }] ⟨[tP 0 1000000, tI 2 uw, tP 4 4, tP 6 6, tB 42 true], [bC 4 (GTerm.q up), (6, .cells GTerm.z [(3, .app 26)]), bC 1000000 [.sl (List.map GTerm.c ue.gList), aI (wr.i64 (ue.gLeft - 1)), .bool ue.gBad]], []⟩ (.cons (congrArg AV.bool h432) (.cons (congrArg AV.bool h433) .nil)) ?_
            exact ⟨_, rfl, h⟩
          · rcases oif h with ⟨h434, h⟩ | ⟨h434, h⟩
            · refine Wc.r2 [{}, {}, {}, {}, { re := some (.bool false) }, {}, {}, {}, {}, {}, {}, { re := some (.bool false) }, {}, {}, {}, { re := some (.bool true) }] ⟨[tP 0 1000000, tI 2 uw, tP 4 4, tP 6 6, tB 42 true], [bC 4 (GTerm.q up), (6, .cells GTerm.z [(3, .app 26)]), bC 1000000 [.sl (List.map GTerm.c ue.gList), aI (wr.i64 (ue.gLeft - 1)), .bool ue.gBad]], []⟩ (.cons (congrArg AV.bool h432) (.cons (congrArg AV.bool h433) (.cons (congrArg AV.bool h434) .nil))) ?_
              exact ⟨_, rfl, h⟩
            · obtain ⟨ubr, h435, h⟩ := obind h
              refine Wc.r2 [{}, {}, {}, {}, { re := some (.bool false) }, {}, {}, {}, {}, {}, {}, { re := some (.bool false) }, {}, {}, {}, { re := some (.bool false) }, {}, { r := some (.v (.bool ubr) []) }] ⟨[tP 0 1000000, tI 2 uw, tP 4 4, tP 6 6, tB 42 (!ubr)], [bC 4 (GTerm.q up), (6, .cells GTerm.z [(3, .app 26)]), bC 1000000 [.sl (List.map GTerm.c ue.gList), aI (wr.i64 (ue.gLeft - 1)), .bool ue.gBad]], []⟩ (.cons (congrArg AV.bool h432) (.cons (congrArg AV.bool h433) (.cons (congrArg AV.bool h434) (.cons (cspec_l03One h435) .nil)))) ?_
              exact ⟨_, rfl, h⟩
      · rintro st ⟨u97, rfl, h⟩
        rcases oif h with ⟨h425, h⟩ | ⟨h425, h⟩
        · refine Wc.cT h425 ?_
          apply Wc.seq
          refine Wc.r0 ⟨[tP 6 6], [(6, .cells GTerm.z [(3, .app 26)]), bC 1000000 [.sl (List.map GTerm.c ue.gList), aI (wr.i64 (ue.gLeft - 1)), .bool true]], []⟩ ?_
          apply Wc.seq
          refine Wc.r1 [{}, { tk := [46] }] ⟨[tP 6 6], [(6, .cells GTerm.z [(3, .app 26)]), bC 1000000 [.sl (List.map GTerm.c ue.gList), aI (wr.i64 (ue.gLeft - 1)), .bool true]], []⟩ ?_
          obtain rfl := Option.some.inj h; exact Wc.ret dn
        · refine Wc.cF h425 ?_
          refine Wc.fx [] ⟨[tP 0 1000000, tI 2 uw, tP 4 4, tP 6 6], [bC 4 (GTerm.q up), (6, .cells GTerm.z [(3, .app 26)]), bC 1000000 [.sl (List.map GTerm.c ue.gList), aI (wr.i64 (ue.gLeft - 1)), .bool ue.gBad]], []⟩ ?_
          refine Wc.skip ?_
          apply Wc.seq
          refine Wc.r0 ⟨[tP 0 1000000, tI 2 uw, tP 4 4, tP 6 6, tP 7 7], [bC 4 (GTerm.q up), (6, .cells GTerm.z [(3, .app 26)]), bC 7 (GTerm.q up), bC 1000000 [.sl (List.map GTerm.c ue.gList), aI (wr.i64 (ue.gLeft - 1)), .bool ue.gBad]], []⟩ ?_
          apply Wc.seq
          refine Wc.r2 [{ c := some (List.map GTerm.c []) }, {}, { tk := [48] }] ⟨[tP 0 1000000, tI 2 uw, tP 4 4, tP 6 6, tP 7 7], [bC 4 (GTerm.q up), (6, .cells GTerm.z [(3, .app 26)]), (7, .cells [aI up.gKind, .str up.gName, aI up.gNum, .sl (List.map GTerm.c [])] [(3, .app 26)]), bC 1000000 [.sl (List.map GTerm.c ue.gList), aI (wr.i64 (ue.gLeft - 1)), .bool ue.gBad]], []⟩ (.cons (cl_nil GTerm.c) .nil) ?_
          apply Wc.seq
          apply Wc.seq
          refine Wc.r0 ⟨[tP 0 1000000, tI 2 uw, tP 4 4, tP 6 6, tP 7 7, tI 8 0], [bC 4 (GTerm.q up), (6, .cells GTerm.z [(3, .app 26)]), (7, .cells [aI up.gKind, .str up.gName, aI up.gNum, .sl (List.map GTerm.c [])] [(3, .app 26)]), bC 1000000 [.sl (List.map GTerm.c ue.gList), aI (wr.i64 (ue.gLeft - 1)), .bool ue.gBad]], []⟩ ?_
          obtain ⟨out2, h426, h⟩ := obind h
          refine Wc.lastJ (fun st => ∃ (u6u : GTerm) (u6v : GL04Fill), out2 = .done (u6u, u6v) ∧ st = ⟨[tP 6 6, tP 7 7], [(6, .cells GTerm.z [(3, .app 26)]), (7, .cells (GTerm.q u6u) [(3, .app 26)]), bC 1000000 (GL04Fill.q u6v)], []⟩) ?_ ?_
          · refine Wc.block ?_
            refine Wc.loop (fun m st => ∃ (u2f : Int) (z3 : GTerm) (u1g : GL04Fill), st = ⟨[tP 0 1000000, tI 2 uw, tP 4 4, tP 6 6, tP 7 7, tI 8 u2f], [bC 4 (GTerm.q up), (6, .cells GTerm.z [(3, .app 26)]), (7, .cells (GTerm.q z3) [(3, .app 26)]), bC 1000000 (GL04Fill.q u1g)], []⟩ ∧ pspec_l04Fill_fill_L2 k (pspec_l04Fill_fill k) up uw m u2f z3 u1g = some out2) ?_ k ⟨_, _, _, rfl, h426⟩
            rintro m st ⟨u2f, z3, u1g, rfl, h426⟩
            cases m with
            | zero => exact (onone h426).elim
            | succ m =>
              apply Wc.seq
              apply Wc.seq
              rcases oif h426 with ⟨h427, h426⟩ | ⟨h427, h426⟩
              · refine Wc.r2 [{}, {}, {}, { v := some (aI (up.gKids.length : Int)) }, {}, { re := some (.bool true) }] ⟨[tP 0 1000000, tI 2 uw, tP 4 4, tP 6 6, tP 7 7, tI 8 u2f, tB 61 (!u1g.gBad)], [bC 4 (GTerm.q up), (6, .cells GTerm.z [(3, .app 26)]), (7, .cells (GTerm.q z3) [(3, .app 26)]), bC 1000000 (GL04Fill.q u1g)], []⟩ (.cons (len_obl GTerm.c up.gKids) (.cons (congrArg AV.bool h427) .nil)) ?_
                rcases oif h426 with ⟨h428, h426⟩ | ⟨h428, h426⟩
                · refine Wc.cT h428 ?_
                  refine Wc.fx [] ⟨[tP 0 1000000, tI 2 uw, tP 4 4, tP 6 6, tP 7 7, tI 8 u2f], [bC 4 (GTerm.q up), (6, .cells GTerm.z [(3, .app 26)]), (7, .cells (GTerm.q z3) [(3, .app 26)]), bC 1000000 (GL04Fill.q u1g)], []⟩ ?_
                  refine Wc.skip ?_
                  apply Wc.seq
                  refine Wc.block ?_
                  obtain ⟨u96, h429, h426⟩ := obind h426
                  obtain ⟨u0d, h430, h426⟩ := obind h426
                  obtain ⟨h431, h426⟩ := oguard h426
                  refine Wc.draw hmix [{}, { md := 1 }, {}, {}, {}, {}, { v := some (.vptr (GTerm.q u96)) }, {}, {}, {}, { r := some (.v (.agg (GTerm.q u0d.2)) [(3, .app 26)]), outs := [(0, .p (GL04Fill.q u0d.1) [])] }, { c := some (List.map GTerm.c [u0d.2]) }, { c := some (List.map GTerm.c (z3.gKids ++ [u0d.2])), tk := [65] }, {}, { tk := [76] }] [] [0, 2, 4, 6, 7, 8] [4, 6, 7, 1000000] [] ⟨[tP 0 1000000, tI 2 uw, tP 4 4, tP 6 6, tP 7 7, tI 8 u2f], [bC 4 (GTerm.q up), (6, .cells GTerm.z [(3, .app 26)]), (7, .cells [aI z3.gKind, .str z3.gName, aI z3.gNum, .sl (List.map GTerm.c (z3.gKids ++ [u0d.2]))] [(3, .app 26)]), bC 1000000 (GL04Fill.q u0d.1)], []⟩ _ (by kernel_rfl) (fun X => by kernel_rfl) (.cons (at_obl (c := GTerm.c) (GTerm.c_eq u96) GTerm.c_len h429) (.cons (len_ok 4 (GTerm.q u96)) (.cons (ih_pspec_l04Fill_fill h430) (.cons (cl_cons (c := GTerm.c) (x := u0d.2) (GTerm.c_eq u0d.2) (cl_nil GTerm.c)) (.cons (app_re2 GTerm.c z3.gKids [u0d.2]) (.cons (app_leaf (c := GTerm.c) (ys := [u0d.2]) GTerm.c_leaf) (.cons (app_obl2 (c := GTerm.c) (xs := z3.gKids) (ys := [u0d.2]) GTerm.c_len h431) .nil))))))) ?_
                  refine Wc.r0 ⟨[tP 0 1000000, tI 2 uw, tP 4 4, tP 6 6, tP 7 7, tI 8 (wr.i64 (u2f + 1))], [bC 4 (GTerm.q up), (6, .cells GTerm.z [(3, .app 26)]), (7, .cells [aI z3.gKind, .str z3.gName, aI z3.gNum, .sl (List.map GTerm.c (z3.gKids ++ [u0d.2]))] [(3, .app 26)]), bC 1000000 (GL04Fill.q u0d.1)], []⟩ ?_
                  exact ⟨_, Nat.lt_succ_self _, _, _, _, rfl, h426⟩
                · refine Wc.cF h428 ?_
                  refine Wc.fx [] ⟨[tP 6 6, tP 7 7], [(6, .cells GTerm.z [(3, .app 26)]), (7, .cells (GTerm.q z3) [(3, .app 26)]), bC 1000000 (GL04Fill.q u1g)], []⟩ ?_
                  refine Wc.exit ?_
                  obtain rfl := Option.some.inj h426
                  exact ⟨_, _, rfl, rfl⟩
              · refine Wc.r2 [{}, {}, {}, { v := some (aI (up.gKids.length : Int)) }, {}, { re := some (.bool false) }] ⟨[tP 0 1000000, tI 2 uw, tP 4 4, tP 6 6, tP 7 7, tI 8 u2f, tB 61 false], [bC 4 (GTerm.q up), (6, .cells GTerm.z [(3, .app 26)]), (7, .cells (GTerm.q z3) [(3, .app 26)]), bC 1000000 (GL04Fill.q u1g)], []⟩ (.cons (len_obl GTerm.c up.gKids) (.cons (congrArg AV.bool h427) .nil)) ?_
                refine Wc.cF rfl ?_
                refine Wc.fx [] ⟨[tP 6 6, tP 7 7], [(6, .cells GTerm.z [(3, .app 26)]), (7, .cells (GTerm.q z3) [(3, .app 26)]), bC 1000000 (GL04Fill.q u1g)], []⟩ ?_
                refine Wc.exit ?_
                obtain rfl := Option.some.inj h426
                exact ⟨_, _, rfl, rfl⟩
          · rintro st ⟨u6u, u6v, rfl, rfl⟩
            apply Wc.seq
            refine Wc.r1 [{ md := 1 }, { tk := [78] }] ⟨[tP 6 6], [(6, .cells (GTerm.q u6u) [(3, .app 26)]), bC 1000000 (GL04Fill.q u6v)], []⟩ ?_
            obtain rfl := Option.some.inj h; exact Wc.ret dn
theorem cspec_l04Fill_fill {k : Nat} {ue : GL04Fill} {u37 : GTerm} {uw : Int} {r : GL04Fill × GTerm} (h : pspec_l04Fill_fill k ue u37 uw = some r) : FnO Try.prog 48 [.p (GL04Fill.q ue) [], .v (.agg (GTerm.q u37)) [], .v (aI uw) []] (.v (.agg (GTerm.q r.2)) [(3, .app 26)]) [(0, .p (GL04Fill.q r.1) [])] := (all_pspec_l04Fill_fill k) h

def pspec_l04Filled (k : Nat) (u6w : List GTerm) (u6x : GTerm) : Option (GTerm × Bool) :=
  (pspec_l04Fill_fill k (GL04Fill.mk u6w 400 false) u6x 1).bind fun u2r =>
  if u2r.1.gBad = true then
    some (GTerm.mk 0 (bs []) 0 [], false)
  else
    some (u2r.2, true)
theorem cspec_l04Filled {k : Nat} {u6w : List GTerm} {u6x : GTerm} {r : GTerm × Bool} (h : pspec_l04Filled k u6w u6x = some r) : FnO Try.prog 30 [.v (.sl (List.map GTerm.c u6w)) [], .v (.agg (GTerm.q u6x)) []] (.v (.tup [.agg (GTerm.q r.1), .bool r.2]) [(3, .app 26)]) [] := by
  refine FnO.o2 Try.func30 (rfl : Try.f30.body = some _) ?_
  intro w0 X0 Fin pv0 pb gt
  unfold pspec_l04Filled at h
  apply Wc.seq
  refine Wc.r0 ⟨[tV 0 (.sl (List.map GTerm.c u6w)), tP 3 3, tP 4 4], [bC 3 (GTerm.q u6x), (4, .cells GTerm.z [(3, .app 26)])], []⟩ ?_
  apply Wc.seq
  refine Wc.r0 ⟨[tP 3 3, tP 4 4, tP 6 10], [bC 3 (GTerm.q u6x), (4, .cells GTerm.z [(3, .app 26)]), bC 10 [.sl (List.map GTerm.c u6w), aI 400, .bool false]], []⟩ ?_
  apply Wc.seq
  obtain ⟨u2r, h438, h⟩ := obind h
  refine Wc.r2 [{}, {}, { r := some (.v (.agg (GTerm.q u2r.2)) [(3, .app 26)]), outs := [(0, .p (GL04Fill.q u2r.1) [])] }, {}, { tk := [13] }] ⟨[tP 4 4, tP 6 10, tP 7 7], [(4, .cells GTerm.z [(3, .app 26)]), (7, .cells (GTerm.q u2r.2) [(3, .app 26)]), bC 10 (GL04Fill.q u2r.1)], []⟩ (.cons (cspec_l04Fill_fill h438) .nil) ?_
  apply Wc.seq
  apply Wc.seq
  refine Wc.r0 ⟨[tP 4 4, tP 7 7, tB 17 u2r.1.gBad], [(4, .cells GTerm.z [(3, .app 26)]), (7, .cells (GTerm.q u2r.2) [(3, .app 26)])], []⟩ ?_
  rcases oif h with ⟨h439, h⟩ | ⟨h439, h⟩
  · refine Wc.cT h439 ?_
    apply Wc.seq
    refine Wc.r1 [{}, { tk := [18] }] ⟨[tP 4 4, tB 5 false], [(4, .cells GTerm.z [(3, .app 26)])], []⟩ ?_
    obtain rfl := Option.some.inj h; exact Wc.ret dn
  · refine Wc.cF h439 ?_
    refine Wc.fx [] ⟨[tP 4 4, tP 7 7], [(4, .cells GTerm.z [(3, .app 26)]), (7, .cells (GTerm.q u2r.2) [(3, .app 26)])], []⟩ ?_
    refine Wc.skip ?_
    apply Wc.seq
    refine Wc.r1 [{ md := 1 }, { tk := [19] }] ⟨[tP 4 4, tB 5 true], [(4, .cells (GTerm.q u2r.2) [(3, .app 26)])], []⟩ ?_
    obtain rfl := Option.some.inj h; exact Wc.ret dn

def pspec_l04Fill_fill_d_L2 (k : Nat) (rspec_l04Fill_fill_d : GL04Fill → GTerm → Int → Option (GL04Fill × GTerm)) (uj : GTerm) (ux : Int) : Nat → Int → GTerm → GL04Fill → Option (Out (GL04Fill × GTerm) (GTerm × GL04Fill))
  | 0, _, _, _ => none
  | m + 1, u2g, uz, u1h =>
    if (decide (u2g < (uj.gKids.length : Int))) = true then
      if (!u1h.gBad) = true then
        (at' uj.gKids u2g).bind fun u98 =>
        (rspec_l04Fill_fill_d u1h u98 (wr.i64 (ux + 1))).bind fun u0e =>
        if uz.gKids.length + [u0e.2].length ≤ 1073741824 then
          pspec_l04Fill_fill_d_L2 k rspec_l04Fill_fill_d uj ux m (wr.i64 (u2g + 1)) (GTerm.mk uz.gKind uz.gName uz.gNum (uz.gKids ++ [u0e.2])) u0e.1
        else none
      else
        some (.done (uz, u1h))
    else
      some (.done (uz, u1h))
def pspec_l04Fill_fill_d_J1 (k : Nat) (rspec_l04Fill_fill_d : GL04Fill → GTerm → Int → Option (GL04Fill × GTerm)) (ud : GL04Fill) (uj : GTerm) (ux : Int) (u99 : Bool) : Option (GL04Fill × GTerm) :=
  if u99 = true then
    some (GL04Fill.mk ud.gList (wr.i64 (ud.gLeft - 1)) true, GTerm.mk 0 (bs []) 0 [])
  else
    (pspec_l04Fill_fill_d_L2 k rspec_l04Fill_fill_d uj ux k 0 (GTerm.mk uj.gKind uj.gName uj.gNum []) (GL04Fill.mk ud.gList (wr.i64 (ud.gLeft - 1)) ud.gBad)).bind fun out2 => match out2 with
    | .ret r => some r
    | .done (u4d, u6y) =>
      some (u6y, u4d)
mutual
def pspec_l04Fill_fill_d : Nat → GL04Fill → GTerm → Int → Option (GL04Fill × GTerm)
  | 0, _, _, _ => none
  | k + 1, ud, u38, ux =>
    (pspec_l04Walk k ud.gList u38).bind fun uj =>
    if ud.gBad = true then
      pspec_l04Fill_fill_d_J1 k (pspec_l04Fill_fill_d k) ud uj ux true
    else
      if (decide ((wr.i64 (ud.gLeft - 1)) < 0)) = true then
        pspec_l04Fill_fill_d_J1 k (pspec_l04Fill_fill_d k) ud uj ux true
      else
        if (decide (ux > 40)) = true then
          pspec_l04Fill_fill_d_J1 k (pspec_l04Fill_fill_d k) ud uj ux true
        else
          (pspec_l03One k uj).bind fun ubs =>
          pspec_l04Fill_fill_d_J1 k (pspec_l04Fill_fill_d k) ud uj ux (!ubs)
end
set_option maxHeartbeats 4000000 in
theorem all_pspec_l04Fill_fill_d : ∀ k : Nat, (∀ {ud : GL04Fill} {u38 : GTerm} {ux : Int} {r : GL04Fill × GTerm}, pspec_l04Fill_fill_d k ud u38 ux = some r → FnO Try.prog 48 [.p (GL04Fill.q ud) [], .v (.agg (GTerm.q u38)) [], .v (aI ux) []] (.v (.agg (GTerm.qx r.2)) (GTerm.h3_26t r.2)) [(0, .p (GL04Fill.q r.1) [])]) := by
  intro k
  induction k with
  | zero =>
    · intro ud u38 ux r h
      exact (onone (by rw [pspec_l04Fill_fill_d] at h; exact h)).elim
  | succ k ih =>
    have ih_pspec_l04Fill_fill_d := @ih
    · intro ud u38 ux r h
      rw [pspec_l04Fill_fill_d] at h
      refine FnO.o2 Try.func48 (rfl : Try.f48.body = some _) ?_
      intro w0 X0 Fin pv0 pb gt
      apply Wc.seq
      refine Wc.r0 ⟨[tP 0 1000000, tI 2 ux, tP 4 4, tP 6 6], [bC 4 (GTerm.q u38), (6, .cells GTerm.z [(3, .app 26)]), bC 1000000 (GL04Fill.q ud)], []⟩ ?_
      apply Wc.seq
      obtain ⟨uj, h452, h⟩ := obind h
      refine Wc.draw hmix [{}, {}, {}, {}, {}, { r := some (.v (.agg (GTerm.q uj)) []) }] [] [0, 2, 4, 6] [4, 6, 1000000] [] ⟨[tP 0 1000000, tI 2 ux, tP 4 4, tP 6 6], [bC 4 (GTerm.q uj), (6, .cells GTerm.z [(3, .app 26)]), bC 1000000 (GL04Fill.q ud)], []⟩ _ (by kernel_rfl) (fun X => by kernel_rfl) (.cons (cspec_l04Walk h452) .nil) ?_
      apply Wc.seq
      refine Wc.r0 ⟨[tP 0 1000000, tI 2 ux, tP 4 4, tP 6 6], [bC 4 (GTerm.q uj), (6, .cells GTerm.z [(3, .app 26)]), bC 1000000 [.sl (List.map GTerm.c ud.gList), aI (wr.i64 (ud.gLeft - 1)), .bool ud.gBad]], []⟩ ?_
      apply Wc.seq
      refine Wc.seqJ (fun st => ∃ (u99 : Bool), st = ⟨[tP 0 1000000, tI 2 ux, tP 4 4, tP 6 6, tB 42 u99], [bC 4 (GTerm.q uj), (6, .cells [aI 0, .str (bs []), aI 0, .slx] [(3, .ex 26 true (List.map GTerm.c []))]), bC 1000000 [.sl (List.map GTerm.c ud.gList), aI (wr.i64 (ud.gLeft - 1)), .bool ud.gBad]], []⟩ ∧ pspec_l04Fill_fill_d_J1 k (pspec_l04Fill_fill_d k) ud uj ux u99 = some r) ?_ ?_
      · rcases oif h with ⟨h460, h⟩ | ⟨h460, h⟩
        · refine Wc.r3 [{}, {}, {}, {}, { re := some (.bool true) }] [.ow (.b 6 3) true] ⟨[tP 0 1000000, tI 2 ux, tP 4 4, tP 6 6, tB 42 true], [bC 4 (GTerm.q uj), (6, .cells [aI 0, .str (bs []), aI 0, .slx] [(3, .ex 26 true (List.map GTerm.c []))]), bC 1000000 [.sl (List.map GTerm.c ud.gList), aI (wr.i64 (ud.gLeft - 1)), .bool ud.gBad]], []⟩ (.cons (congrArg AV.bool h460) .nil) ?_
          exact ⟨_, rfl, h⟩
        · rcases oif h with ⟨h461, h⟩ | ⟨h461, h⟩
          · refine Wc.r3 [{}, {}, {}, {}, { re := some (.bool false) }, {}, {}, {}, {}, {}, {}, { re := some (.bool true) }] [.ow (.b 6 3) true] ⟨[tP 0 1000000, tI 2 ux, tP 4 4, tP 6 6, tB 42 true], [bC 4 (GTerm.q uj), (6, .cells [aI 0, .str (bs []), aI 0, .slx] [(3, .ex 26 true (List.map GTerm.c []))]), bC 1000000 [.sl (List.map GTerm.c ud.gList), aI (wr.i64 (ud.gLeft - 1)), .bool ud.gBad]], []⟩ (.cons (congrArg AV.bool h460) (.cons (congrArg AV.bool h461) .nil)) ?_
            exact ⟨_, rfl, h⟩
          · rcases oif h with ⟨h462, h⟩ | ⟨h462, h⟩
            · refine Wc.r3 [{}, {}, {}, {}, { re := some (.bool false) }, {}, {}, {}, {}, {}, {}, { re := some (.bool false) }, {}, {}, {}, { re := some (.bool true) }] [.ow (.b 6 3) true] ⟨[tP 0 1000000, tI 2 ux, tP 4 4, tP 6 6, tB 42 true], [bC 4 (GTerm.q uj), (6, .cells [aI 0, .str (bs []), aI 0, .slx] [(3, .ex 26 true (List.map GTerm.c []))]), bC 1000000 [.sl (List.map GTerm.c ud.gList), aI (wr.i64 (ud.gLeft - 1)), .bool ud.gBad]], []⟩ (.cons (congrArg AV.bool h460) (.cons (congrArg AV.bool h461) (.cons (congrArg AV.bool h462) .nil))) ?_
              exact ⟨_, rfl, h⟩
            · obtain ⟨ubs, h463, h⟩ := obind h
              refine Wc.r3 [{}, {}, {}, {}, { re := some (.bool false) }, {}, {}, {}, {}, {}, {}, { re := some (.bool false) }, {}, {}, {}, { re := some (.bool false) }, {}, { r := some (.v (.bool ubs) []) }] [.ow (.b 6 3) true] ⟨[tP 0 1000000, tI 2 ux, tP 4 4, tP 6 6, tB 42 (!ubs)], [bC 4 (GTerm.q uj), (6, .cells [aI 0, .str (bs []), aI 0, .slx] [(3, .ex 26 true (List.map GTerm.c []))]), bC 1000000 [.sl (List.map GTerm.c ud.gList), aI (wr.i64 (ud.gLeft - 1)), .bool ud.gBad]], []⟩ (.cons (congrArg AV.bool h460) (.cons (congrArg AV.bool h461) (.cons (congrArg AV.bool h462) (.cons (cspec_l03One h463) .nil)))) ?_
              exact ⟨_, rfl, h⟩
      · rintro st ⟨u99, rfl, h⟩
        rcases oif h with ⟨h453, h⟩ | ⟨h453, h⟩
        · refine Wc.cT h453 ?_
          apply Wc.seq
          refine Wc.r0 ⟨[tP 6 6], [(6, .cells [aI 0, .str (bs []), aI 0, .slx] [(3, .ex 26 true (List.map GTerm.c []))]), bC 1000000 [.sl (List.map GTerm.c ud.gList), aI (wr.i64 (ud.gLeft - 1)), .bool true]], []⟩ ?_
          apply Wc.seq
          refine Wc.r1 [{}, { tk := [46] }] ⟨[tP 6 6], [(6, .cells GTerm.z [(3, .app 26)]), bC 1000000 [.sl (List.map GTerm.c ud.gList), aI (wr.i64 (ud.gLeft - 1)), .bool true]], []⟩ ?_
          refine Wc.fx [.ow (.b 6 3) true] ⟨[tP 6 6], [(6, .cells [aI 0, .str (bs []), aI 0, .slx] [(3, .ex 26 true (List.map GTerm.c []))]), bC 1000000 [.sl (List.map GTerm.c ud.gList), aI (wr.i64 (ud.gLeft - 1)), .bool true]], []⟩ ?_
          obtain rfl := Option.some.inj h; exact Wc.ret dn
        · refine Wc.cF h453 ?_
          refine Wc.fx [] ⟨[tP 0 1000000, tI 2 ux, tP 4 4, tP 6 6], [bC 4 (GTerm.q uj), (6, .cells [aI 0, .str (bs []), aI 0, .slx] [(3, .ex 26 true (List.map GTerm.c []))]), bC 1000000 [.sl (List.map GTerm.c ud.gList), aI (wr.i64 (ud.gLeft - 1)), .bool ud.gBad]], []⟩ ?_
          refine Wc.skip ?_
          apply Wc.seq
          refine Wc.r0 ⟨[tP 0 1000000, tI 2 ux, tP 4 4, tP 6 6, tP 7 7], [bC 4 (GTerm.q uj), (6, .cells [aI 0, .str (bs []), aI 0, .slx] [(3, .ex 26 true (List.map GTerm.c []))]), bC 7 (GTerm.q uj), bC 1000000 [.sl (List.map GTerm.c ud.gList), aI (wr.i64 (ud.gLeft - 1)), .bool ud.gBad]], []⟩ ?_
          apply Wc.seq
          refine Wc.r2 [{ c := some (List.map GTerm.c []), md := 2 }, {}, { tk := [48] }] ⟨[tP 0 1000000, tI 2 ux, tP 4 4, tP 6 6, tP 7 7], [bC 4 (GTerm.q uj), (6, .cells [aI 0, .str (bs []), aI 0, .slx] [(3, .ex 26 true (List.map GTerm.c []))]), (7, .cells (GTerm.qx uj) [(3, .ex 26 true (List.map GTerm.c []))]), bC 1000000 [.sl (List.map GTerm.c ud.gList), aI (wr.i64 (ud.gLeft - 1)), .bool ud.gBad]], []⟩ (.cons (cl_nil GTerm.c) .nil) ?_
          apply Wc.seq
          apply Wc.seq
          refine Wc.r0 ⟨[tP 0 1000000, tI 2 ux, tP 4 4, tP 6 6, tP 7 7, tI 8 0], [bC 4 (GTerm.q uj), (6, .cells [aI 0, .str (bs []), aI 0, .slx] [(3, .ex 26 true (List.map GTerm.c []))]), (7, .cells (GTerm.qx uj) [(3, .ex 26 true (List.map GTerm.c []))]), bC 1000000 [.sl (List.map GTerm.c ud.gList), aI (wr.i64 (ud.gLeft - 1)), .bool ud.gBad]], []⟩ ?_
          obtain ⟨out2, h454, h⟩ := obind h
          refine Wc.lastJ (fun st => ∃ (u4d : GTerm) (u6y : GL04Fill), out2 = .done (u4d, u6y) ∧ st = ⟨[tP 6 6, tP 7 7], [(6, .cells [aI 0, .str (bs []), aI 0, .slx] [(3, .ex 26 true (List.map GTerm.c []))]), (7, .cells (GTerm.qx u4d) (GTerm.h3_26t u4d)), bC 1000000 (GL04Fill.q u6y)], []⟩) ?_ ?_
          · refine Wc.block ?_
            refine Wc.loop (fun m st => ∃ (u2g : Int) (uz : GTerm) (u1h : GL04Fill), st = ⟨[tP 0 1000000, tI 2 ux, tP 4 4, tP 6 6, tP 7 7, tI 8 u2g], [bC 4 (GTerm.q uj), (6, .cells [aI 0, .str (bs []), aI 0, .slx] [(3, .ex 26 true (List.map GTerm.c []))]), (7, .cells (GTerm.qx uz) (GTerm.h3_26t uz)), bC 1000000 (GL04Fill.q u1h)], []⟩ ∧ pspec_l04Fill_fill_d_L2 k (pspec_l04Fill_fill_d k) uj ux m u2g uz u1h = some out2) ?_ k ⟨_, _, _, rfl, h454⟩
            rintro m st ⟨u2g, uz, u1h, rfl, h454⟩
            cases m with
            | zero => exact (onone h454).elim
            | succ m =>
              apply Wc.seq
              apply Wc.seq
              rcases oif h454 with ⟨h455, h454⟩ | ⟨h455, h454⟩
              · refine Wc.r2 [{}, {}, {}, { v := some (aI (uj.gKids.length : Int)) }, {}, { re := some (.bool true) }] ⟨[tP 0 1000000, tI 2 ux, tP 4 4, tP 6 6, tP 7 7, tI 8 u2g, tB 61 (!u1h.gBad)], [bC 4 (GTerm.q uj), (6, .cells [aI 0, .str (bs []), aI 0, .slx] [(3, .ex 26 true (List.map GTerm.c []))]), (7, .cells (GTerm.qx uz) (GTerm.h3_26t uz)), bC 1000000 (GL04Fill.q u1h)], []⟩ (.cons (len_obl GTerm.c uj.gKids) (.cons (congrArg AV.bool h455) .nil)) ?_
                rcases oif h454 with ⟨h456, h454⟩ | ⟨h456, h454⟩
                · refine Wc.cT h456 ?_
                  refine Wc.fx [] ⟨[tP 0 1000000, tI 2 ux, tP 4 4, tP 6 6, tP 7 7, tI 8 u2g], [bC 4 (GTerm.q uj), (6, .cells [aI 0, .str (bs []), aI 0, .slx] [(3, .ex 26 true (List.map GTerm.c []))]), (7, .cells (GTerm.qx uz) (GTerm.h3_26t uz)), bC 1000000 (GL04Fill.q u1h)], []⟩ ?_
                  refine Wc.skip ?_
                  apply Wc.seq
                  refine Wc.block ?_
                  obtain ⟨u98, h457, h454⟩ := obind h454
                  obtain ⟨u0e, h458, h454⟩ := obind h454
                  obtain ⟨h459, h454⟩ := oguard h454
                  refine Wc.draw hmix [{}, { md := 1 }, {}, {}, {}, {}, { v := some (.vptr (GTerm.q u98)) }, {}, {}, {}, { r := some (.v (.agg (GTerm.qx u0e.2)) (GTerm.h3_26t u0e.2)), outs := [(0, .p (GL04Fill.q u0e.1) [])] }, { c := some (List.map GTerm.c [u0e.2]), tk := [74], md := 2 }, { c := some (List.map GTerm.c (uz.gKids ++ [u0e.2])), tk := [65, 75], md := 2 }, {}, { tk := [76] }] [] [0, 2, 4, 6, 7, 8] [4, 6, 7, 1000000] [] ⟨[tP 0 1000000, tI 2 ux, tP 4 4, tP 6 6, tP 7 7, tI 8 u2g], [bC 4 (GTerm.q uj), (6, .cells [aI 0, .str (bs []), aI 0, .slx] [(3, .ex 26 true (List.map GTerm.c []))]), (7, .cells (GTerm.qx uz) [(3, .ex 26 true (List.map GTerm.c (uz.gKids ++ [u0e.2])))]), bC 1000000 (GL04Fill.q u0e.1)], []⟩ _ (by kernel_rfl) (fun X => by kernel_rfl) (.cons (at_obl (c := GTerm.c) (GTerm.c_eq u98) GTerm.c_len h457) (.cons (len_ok 4 (GTerm.q u98)) (.cons (ih_pspec_l04Fill_fill_d h458) (.cons (cl_cons (c := GTerm.c) (x := u0e.2) (GTerm.c_eq u0e.2) (cl_nil GTerm.c)) (.cons (app_re2 GTerm.c uz.gKids [u0e.2]) (.cons (app_obl2 (c := GTerm.c) (xs := uz.gKids) (ys := [u0e.2]) GTerm.c_len h459) .nil)))))) ?_
                  refine Wc.r0 ⟨[tP 0 1000000, tI 2 ux, tP 4 4, tP 6 6, tP 7 7, tI 8 (wr.i64 (u2g + 1))], [bC 4 (GTerm.q uj), (6, .cells [aI 0, .str (bs []), aI 0, .slx] [(3, .ex 26 true (List.map GTerm.c []))]), (7, .cells (GTerm.qx uz) [(3, .ex 26 true (List.map GTerm.c (uz.gKids ++ [u0e.2])))]), bC 1000000 (GL04Fill.q u0e.1)], []⟩ ?_
                  exact ⟨_, Nat.lt_succ_self _, _, _, _, rfl, h454⟩
                · refine Wc.cF h456 ?_
                  refine Wc.fx [] ⟨[tP 6 6, tP 7 7], [(6, .cells [aI 0, .str (bs []), aI 0, .slx] [(3, .ex 26 true (List.map GTerm.c []))]), (7, .cells (GTerm.qx uz) (GTerm.h3_26t uz)), bC 1000000 (GL04Fill.q u1h)], []⟩ ?_
                  refine Wc.exit ?_
                  obtain rfl := Option.some.inj h454
                  exact ⟨_, _, rfl, rfl⟩
              · refine Wc.r2 [{}, {}, {}, { v := some (aI (uj.gKids.length : Int)) }, {}, { re := some (.bool false) }] ⟨[tP 0 1000000, tI 2 ux, tP 4 4, tP 6 6, tP 7 7, tI 8 u2g, tB 61 false], [bC 4 (GTerm.q uj), (6, .cells [aI 0, .str (bs []), aI 0, .slx] [(3, .ex 26 true (List.map GTerm.c []))]), (7, .cells (GTerm.qx uz) (GTerm.h3_26t uz)), bC 1000000 (GL04Fill.q u1h)], []⟩ (.cons (len_obl GTerm.c uj.gKids) (.cons (congrArg AV.bool h455) .nil)) ?_
                refine Wc.cF rfl ?_
                refine Wc.fx [] ⟨[tP 6 6, tP 7 7], [(6, .cells [aI 0, .str (bs []), aI 0, .slx] [(3, .ex 26 true (List.map GTerm.c []))]), (7, .cells (GTerm.qx uz) (GTerm.h3_26t uz)), bC 1000000 (GL04Fill.q u1h)], []⟩ ?_
                refine Wc.exit ?_
                obtain rfl := Option.some.inj h454
                exact ⟨_, _, rfl, rfl⟩
          · rintro st ⟨u4d, u6y, rfl, rfl⟩
            apply Wc.seq
            refine Wc.r1 [{ md := 1 }, { tk := [78] }] ⟨[tP 6 6], [(6, .cells (GTerm.qx u4d) (GTerm.h3_26t u4d)), bC 1000000 (GL04Fill.q u6y)], []⟩ ?_
            obtain rfl := Option.some.inj h; exact Wc.ret dn
theorem cspec_l04Fill_fill_d {k : Nat} {ud : GL04Fill} {u38 : GTerm} {ux : Int} {r : GL04Fill × GTerm} (h : pspec_l04Fill_fill_d k ud u38 ux = some r) : FnO Try.prog 48 [.p (GL04Fill.q ud) [], .v (.agg (GTerm.q u38)) [], .v (aI ux) []] (.v (.agg (GTerm.qx r.2)) (GTerm.h3_26t r.2)) [(0, .p (GL04Fill.q r.1) [])] := (all_pspec_l04Fill_fill_d k) h

def pspec_l04Filled_d (k : Nat) (u6z : List GTerm) (u39 : GTerm) : Option (GTerm × Bool) :=
  (pspec_l04Fill_fill_d k (GL04Fill.mk u6z 400 false) u39 1).bind fun u0o =>
  if u0o.1.gBad = true then
    some (GTerm.mk 0 (bs []) 0 [], false)
  else
    some (u0o.2, true)
theorem cspec_l04Filled_d {k : Nat} {u6z : List GTerm} {u39 : GTerm} {r : GTerm × Bool} (h : pspec_l04Filled_d k u6z u39 = some r) : FnO Try.prog 30 [.v (.sl (List.map GTerm.c u6z)) [], .v (.agg (GTerm.q u39)) []] (.v (.tup [.agg (GTerm.qx r.1), .bool r.2]) (GTerm.h3_26t r.1)) [] := by
  refine FnO.o2 Try.func30 (rfl : Try.f30.body = some _) ?_
  intro w0 X0 Fin pv0 pb gt
  unfold pspec_l04Filled_d at h
  apply Wc.seq
  refine Wc.r0 ⟨[tV 0 (.sl (List.map GTerm.c u6z)), tP 3 3, tP 4 4], [bC 3 (GTerm.q u39), (4, .cells GTerm.z [(3, .app 26)])], []⟩ ?_
  apply Wc.seq
  refine Wc.r0 ⟨[tP 3 3, tP 4 4, tP 6 10], [bC 3 (GTerm.q u39), (4, .cells GTerm.z [(3, .app 26)]), bC 10 [.sl (List.map GTerm.c u6z), aI 400, .bool false]], []⟩ ?_
  apply Wc.seq
  obtain ⟨u0o, h442, h⟩ := obind h
  refine Wc.r2 [{}, {}, { r := some (.v (.agg (GTerm.qx u0o.2)) (GTerm.h3_26t u0o.2)), outs := [(0, .p (GL04Fill.q u0o.1) [])] }, {}, { tk := [13] }] ⟨[tP 4 4, tP 6 10, tP 7 7], [(4, .cells GTerm.z [(3, .app 26)]), (7, .cells (GTerm.qx u0o.2) (GTerm.h3_26t u0o.2)), bC 10 (GL04Fill.q u0o.1)], []⟩ (.cons (cspec_l04Fill_fill_d h442) .nil) ?_
  apply Wc.seq
  apply Wc.seq
  refine Wc.r0 ⟨[tP 4 4, tP 7 7, tB 17 u0o.1.gBad], [(4, .cells GTerm.z [(3, .app 26)]), (7, .cells (GTerm.qx u0o.2) (GTerm.h3_26t u0o.2))], []⟩ ?_
  rcases oif h with ⟨h443, h⟩ | ⟨h443, h⟩
  · refine Wc.cT h443 ?_
    apply Wc.seq
    refine Wc.r1 [{}, { tk := [18] }] ⟨[tP 4 4, tB 5 false], [(4, .cells GTerm.z [(3, .app 26)])], []⟩ ?_
    refine Wc.fx [.ow (.b 4 3) true] ⟨[tP 4 4, tB 5 false], [(4, .cells [aI 0, .str (bs []), aI 0, .slx] [(3, .ex 26 true (List.map GTerm.c []))])], []⟩ ?_
    obtain rfl := Option.some.inj h; exact Wc.ret dn
  · refine Wc.cF h443 ?_
    refine Wc.fx [] ⟨[tP 4 4, tP 7 7], [(4, .cells GTerm.z [(3, .app 26)]), (7, .cells (GTerm.qx u0o.2) (GTerm.h3_26t u0o.2))], []⟩ ?_
    refine Wc.skip ?_
    apply Wc.seq
    refine Wc.r1 [{ md := 1 }, { tk := [19] }] ⟨[tP 4 4, tB 5 true], [(4, .cells (GTerm.qx u0o.2) (GTerm.h3_26t u0o.2))], []⟩ ?_
    obtain rfl := Option.some.inj h; exact Wc.ret dn

def pspec_l04Uni_bind (k : Nat) (uu : GL04Uni) (u0p : Int) (u0q : GTerm) : Option (GL04Uni × Bool) :=
  (pspec_l04Filled_d k uu.gList u0q).bind fun u3v =>
  if (!u3v.2) = true then
    some (uu, false)
  else
    (pspec_l01In k u0p 0 (wr.i64 ((uu.gList.length : Int) - 1))).bind fun ubt =>
    if (!ubt) = true then
      some (uu, false)
    else
      (pspec_VarsOf k u3v.1).bind fun uch =>
      (pspec_l03Has k uch u0p).bind fun ubu =>
      if ubu = true then
        some (uu, false)
      else
        (at' uu.gList u0p).bind fun u39 =>
        some (GL04Uni.mk (uu.gList.set ((u0p).toNat) u0q) uu.gPairs, true)
theorem cspec_l04Uni_bind {k : Nat} {hv0 : Value} {uu : GL04Uni} {u0p : Int} {u0q : GTerm} {r : GL04Uni × Bool} (h : pspec_l04Uni_bind k uu u0p u0q = some r) : FnO Try.prog 76 [.p [.raw hv0, aI uu.gPairs] (GUnifier.h0_26f uu.gList), .v (aI u0p) [], .v (.agg (GTerm.q u0q)) []] (.v (.bool r.2) []) [(0, .p [.raw hv0, aI r.1.gPairs] (GUnifier.h0_26f r.1.gList))] := by
  refine FnO.o2 Try.func76 (rfl : Try.f76.body = some _) ?_
  intro w0 X0 Fin pv0 pb gt
  unfold pspec_l04Uni_bind at h
  apply Wc.seq
  refine Wc.r0 ⟨[tP 0 1000000, tI 1 u0p, tP 5 5], [bC 5 (GTerm.q u0q), (1000000, .cells [.raw hv0, aI uu.gPairs] (GUnifier.h0_26f uu.gList))], []⟩ ?_
  apply Wc.seq
  obtain ⟨u3v, h440, h⟩ := obind h
  refine Wc.every hmix [{}, {}, {}, {}, {}, { r := some (.v (.tup [.agg (GTerm.qx u3v.1), .bool u3v.2]) (GTerm.h3_26t u3v.1)) }, { tk := [15] }, { tk := [9] }, {}, {}, { tk := [16] }] [] [0, 1, 5, 7, 8] [5, 7, 1000000] [] ⟨[tP 0 1000000, tI 1 u0p, tP 5 5, tP 7 7, tB 8 u3v.2], [bC 5 (GTerm.q u0q), (7, .cells (GTerm.qx u3v.1) (GTerm.h3_26t u3v.1)), (1000000, .cells [.raw hv0, aI uu.gPairs] (GUnifier.h0_26f uu.gList))], []⟩ _ 145 (by kernel_rfl) (.cons .nil (.cons .nil (.cons .nil (.cons .nil (.cons .nil (.cons (.cons (cspec_l04Filled_d h440) .nil) (.cons .nil (.cons .nil (.cons .nil (.cons .nil (.cons .nil (.cons .nil .nil)))))))))))) ?_
  apply Wc.seq
  apply Wc.seq
  rcases oif h with ⟨h441, h⟩ | ⟨h441, h⟩
  · refine Wc.r2 [{ fx := [.sh (.b 7 3)] }, {}, { re := some (.bool true) }] ⟨[tP 0 1000000, tI 1 u0p, tP 5 5, tB 36 true], [bC 5 (GTerm.q u0q), (1000000, .cells [.raw hv0, aI uu.gPairs] (GUnifier.h0_26f uu.gList))], []⟩ (.cons (congrArg AV.bool h441) .nil) ?_
    refine Wc.cT rfl ?_
    apply Wc.seq
    refine Wc.r0 ⟨[tB 6 false], [(1000000, .cells [.raw hv0, aI uu.gPairs] (GUnifier.h0_26f uu.gList))], []⟩ ?_
    obtain rfl := Option.some.inj h; exact Wc.ret dn
  · obtain ⟨ubt, h442, h⟩ := obind h
    rcases oif h with ⟨h443, h⟩ | ⟨h443, h⟩
    · refine Wc.r2 [{ fx := [.sh (.b 7 3)] }, {}, { re := some (.bool false) }, {}, {}, {}, {}, {}, { v := some (aI (uu.gList.length : Int)) }, {}, { r := some (.v (.bool ubt) []) }, {}, {}, { re := some (.bool true) }] ⟨[tP 0 1000000, tI 1 u0p, tP 5 5, tB 36 true], [bC 5 (GTerm.q u0q), (1000000, .cells [.raw hv0, aI uu.gPairs] (GUnifier.h0_26f uu.gList))], []⟩ (.cons (congrArg AV.bool h441) (.cons (len_obl GTerm.c uu.gList) (.cons (cspec_l01In h442) (.cons (congrArg AV.bool h443) .nil)))) ?_
      refine Wc.cT rfl ?_
      apply Wc.seq
      refine Wc.r0 ⟨[tB 6 false], [(1000000, .cells [.raw hv0, aI uu.gPairs] (GUnifier.h0_26f uu.gList))], []⟩ ?_
      obtain rfl := Option.some.inj h; exact Wc.ret dn
    · obtain ⟨uch, h444, h⟩ := obind h
      obtain ⟨ubu, h445, h⟩ := obind h
      refine Wc.r2 [{ fx := [.sh (.b 7 3)] }, {}, { re := some (.bool false) }, {}, {}, {}, {}, {}, { v := some (aI (uu.gList.length : Int)) }, {}, { r := some (.v (.bool ubt) []) }, {}, {}, { re := some (.bool false) }, {}, { r := some (.v (.sl (List.map cI.i64 uch)) []) }, {}, { r := some (.v (.bool ubu) []) }] ⟨[tP 0 1000000, tI 1 u0p, tP 5 5, tB 36 ubu], [bC 5 (GTerm.q u0q), (1000000, .cells [.raw hv0, aI uu.gPairs] (GUnifier.h0_26f uu.gList))], []⟩ (.cons (congrArg AV.bool h441) (.cons (len_obl GTerm.c uu.gList) (.cons (cspec_l01In h442) (.cons (congrArg AV.bool h443) (.cons (cspec_VarsOf h444) (.cons (cspec_l03Has h445) .nil)))))) ?_
      rcases oif h with ⟨h446, h⟩ | ⟨h446, h⟩
      · refine Wc.cT h446 ?_
        apply Wc.seq
        refine Wc.r0 ⟨[tB 6 false], [(1000000, .cells [.raw hv0, aI uu.gPairs] (GUnifier.h0_26f uu.gList))], []⟩ ?_
        obtain rfl := Option.some.inj h; exact Wc.ret dn
      · refine Wc.cF h446 ?_
        refine Wc.fx [] ⟨[tP 0 1000000, tI 1 u0p, tP 5 5], [bC 5 (GTerm.q u0q), (1000000, .cells [.raw hv0, aI uu.gPairs] (GUnifier.h0_26f uu.gList))], []⟩ ?_
        refine Wc.skip ?_
        apply Wc.seq
        obtain ⟨u39, h447, h⟩ := obind h
        refine Wc.every hmix [{}, {}, {}, {}, {}, {}, {}, { c := some (List.map GTerm.c (uu.gList.set ((u0p).toNat) u0q)) }] [] [] [1000000] [] ⟨[], [(1000000, .cells [.raw hv0, aI uu.gPairs] [(0, .ex 26 false (List.map GTerm.c (uu.gList.set ((u0p).toNat) u0q)))])], []⟩ _ 30 (by kernel_rfl) (.cons .nil (.cons .nil (.cons .nil (.cons .nil (.cons .nil (.cons .nil (.cons (.cons (ix_obl (c := GTerm.c) GTerm.c_len h447) .nil) (.cons (.cons (mod_obl (off := 0) (new := (GTerm.q u0q)) (c := GTerm.c) (GTerm.c_eq u39) (GTerm.c_eq u0q) (at'_spec h447).2 rfl) (.cons (st_obl (sz := 4) (off := 0) (s := 4) (c := GTerm.c) (GTerm.c_eq u39) (at'_spec h447).2 rfl (Nat.le_of_ble_eq_true rfl)) .nil)) .nil)))))))) ?_
        apply Wc.seq
        refine Wc.r0 ⟨[tB 6 true], [(1000000, .cells [.raw hv0, aI uu.gPairs] [(0, .ex 26 false (List.map GTerm.c (uu.gList.set ((u0p).toNat) u0q)))])], []⟩ ?_
        obtain rfl := Option.some.inj h; exact Wc.ret dn

def pspec_l04Walk_i_L1 (k : Nat) (vg : List GTerm) : Nat → Int → GTerm → Option (Out ((List GTerm) × GTerm) GTerm)
  | 0, _, _ => none
  | m + 1, u14, zl =>
    if (decide (u14 < 5000)) = true then
      if (zl.gKind != 1) = true then
        some (.done zl)
      else
        (pspec_l01In k zl.gNum 0 (wr.i64 ((vg.length : Int) - 1))).bind fun ubv =>
        if (!ubv) = true then
          some (.done zl)
        else
          (at' vg zl.gNum).bind fun u70 =>
          if (u70.gKind == 0) = true then
            some (.done zl)
          else
            (at' vg zl.gNum).bind fun uj =>
            pspec_l04Walk_i_L1 k vg m (wr.i64 (u14 + 1)) uj
    else
      some (.done zl)
def pspec_l04Walk_i (k : Nat) (vg : List GTerm) (u71 : GTerm) : Option ((List GTerm) × GTerm) :=
  (pspec_l04Walk_i_L1 k vg k 0 u71).bind fun out1 => match out1 with
  | .ret r => some r
  | .done u72 =>
    some (vg, u72)
theorem cspec_l04Walk_i {k : Nat} {vg : List GTerm} {u71 : GTerm} {r : (List GTerm) × GTerm} (h : pspec_l04Walk_i k vg u71 = some r) : FnO Try.prog 53 [.io (.slx) [(0, .ex 26 false (List.map GTerm.c vg))], .v (.agg (GTerm.q u71)) []] (.v (.agg (GTerm.q r.2)) []) [(0, .v .undef [(0, .ex 26 false (List.map GTerm.c r.1))])] := by
  refine FnO.o2 Try.func53 (rfl : Try.f53.body = some _) ?_
  intro w0 X0 Fin pv0 pb gt
  unfold pspec_l04Walk_i at h
  apply Wc.seq
  refine Wc.r0 ⟨[(0, (.v (.slx), [(0, .al (.a 0 0) [])])), tP 3 3, tP 4 4], [bC 3 (GTerm.q u71), (4, .cells GTerm.z [(3, .app 26)])], [(0, [(0, .ex 26 false (List.map GTerm.c vg))])]⟩ ?_
  apply Wc.seq
  apply Wc.seq
  refine Wc.r0 ⟨[(0, (.v (.slx), [(0, .al (.a 0 0) [])])), tP 3 3, tP 4 4, tI 5 0], [bC 3 (GTerm.q u71), (4, .cells GTerm.z [(3, .app 26)])], [(0, [(0, .ex 26 false (List.map GTerm.c vg))])]⟩ ?_
  obtain ⟨out1, h449, h⟩ := obind h
  refine Wc.lastJ (fun st => ∃ (u72 : GTerm), out1 = .done u72 ∧ st = ⟨[tP 3 3, tP 4 4], [bC 3 (GTerm.q u72), (4, .cells GTerm.z [(3, .app 26)])], [(0, [(0, .ex 26 false (List.map GTerm.c vg))])]⟩) ?_ ?_
  · refine Wc.block ?_
    refine Wc.loop (fun m st => ∃ (u14 : Int) (zl : GTerm), st = ⟨[(0, (.v (.slx), [(0, .al (.a 0 0) [])])), tP 3 3, tP 4 4, tI 5 u14], [bC 3 (GTerm.q zl), (4, .cells GTerm.z [(3, .app 26)])], [(0, [(0, .ex 26 false (List.map GTerm.c vg))])]⟩ ∧ pspec_l04Walk_i_L1 k vg m u14 zl = some out1) ?_ k ⟨_, _, rfl, h449⟩
    rintro m st ⟨u14, zl, rfl, h449⟩
    cases m with
    | zero => exact (onone h449).elim
    | succ m =>
      apply Wc.seq
      apply Wc.seq
      refine Wc.r0 ⟨[(0, (.v (.slx), [(0, .al (.a 0 0) [])])), tP 3 3, tP 4 4, tI 5 u14, tB 7 (decide (u14 < 5000))], [bC 3 (GTerm.q zl), (4, .cells GTerm.z [(3, .app 26)])], [(0, [(0, .ex 26 false (List.map GTerm.c vg))])]⟩ ?_
      rcases oif h449 with ⟨h450, h449⟩ | ⟨h450, h449⟩
      · refine Wc.cT h450 ?_
        refine Wc.fx [] ⟨[(0, (.v (.slx), [(0, .al (.a 0 0) [])])), tP 3 3, tP 4 4, tI 5 u14], [bC 3 (GTerm.q zl), (4, .cells GTerm.z [(3, .app 26)])], [(0, [(0, .ex 26 false (List.map GTerm.c vg))])]⟩ ?_
        refine Wc.skip ?_
        apply Wc.seq
        refine Wc.block ?_
        apply Wc.seq
        apply Wc.seq
        rcases oif h449 with ⟨h451, h449⟩ | ⟨h451, h449⟩
        · refine Wc.r2 [{}, {}, {}, { re := some (.bool true) }] ⟨[(0, (.v (.slx), [(0, .al (.a 0 0) [])])), tP 3 3, tP 4 4, tI 5 u14, tB 30 true], [bC 3 (GTerm.q zl), (4, .cells GTerm.z [(3, .app 26)])], [(0, [(0, .ex 26 false (List.map GTerm.c vg))])]⟩ (.cons (congrArg AV.bool h451) .nil) ?_
          refine Wc.cT rfl ?_
          refine Wc.fx [] ⟨[tP 3 3, tP 4 4], [bC 3 (GTerm.q zl), (4, .cells GTerm.z [(3, .app 26)])], [(0, [(0, .ex 26 false (List.map GTerm.c vg))])]⟩ ?_
          refine Wc.exit ?_
          obtain rfl := Option.some.inj h449
          exact ⟨_, rfl, rfl⟩
        · obtain ⟨ubv, h452, h449⟩ := obind h449
          rcases oif h449 with ⟨h453, h449⟩ | ⟨h453, h449⟩
          · refine Wc.r2 [{}, {}, {}, { re := some (.bool false) }, {}, {}, {}, { v := some (aI (vg.length : Int)) }, {}, { r := some (.v (.bool ubv) []) }, {}, {}, { re := some (.bool true) }] ⟨[(0, (.v (.slx), [(0, .al (.a 0 0) [])])), tP 3 3, tP 4 4, tI 5 u14, tB 30 true], [bC 3 (GTerm.q zl), (4, .cells GTerm.z [(3, .app 26)])], [(0, [(0, .ex 26 false (List.map GTerm.c vg))])]⟩ (.cons (congrArg AV.bool h451) (.cons (len_obl GTerm.c vg) (.cons (cspec_l01In h452) (.cons (congrArg AV.bool h453) .nil)))) ?_
            refine Wc.cT rfl ?_
            refine Wc.fx [] ⟨[tP 3 3, tP 4 4], [bC 3 (GTerm.q zl), (4, .cells GTerm.z [(3, .app 26)])], [(0, [(0, .ex 26 false (List.map GTerm.c vg))])]⟩ ?_
            refine Wc.exit ?_
            obtain rfl := Option.some.inj h449
            exact ⟨_, rfl, rfl⟩
          · obtain ⟨u70, h454, h449⟩ := obind h449
            refine Wc.r2 [{}, {}, {}, { re := some (.bool false) }, {}, {}, {}, { v := some (aI (vg.length : Int)) }, {}, { r := some (.v (.bool ubv) []) }, {}, {}, { re := some (.bool false) }, {}, {}, {}, {}, {}, { v := some (aI u70.gKind) }] ⟨[(0, (.v (.slx), [(0, .al (.a 0 0) [])])), tP 3 3, tP 4 4, tI 5 u14, tB 30 (u70.gKind == 0)], [bC 3 (GTerm.q zl), (4, .cells GTerm.z [(3, .app 26)])], [(0, [(0, .ex 26 false (List.map GTerm.c vg))])]⟩ (.cons (congrArg AV.bool h451) (.cons (len_obl GTerm.c vg) (.cons (cspec_l01In h452) (.cons (congrArg AV.bool h453) (.cons (ix_obl (c := GTerm.c) GTerm.c_len h454) (.cons (el_obl (sz := 4) (off := 0) (s := 1) (ag := false) (v := aI u70.gKind) (c := GTerm.c) (GTerm.c_eq u70) (at'_spec h454).2 rfl (Nat.le_of_ble_eq_true rfl) rfl) .nil)))))) ?_
            rcases oif h449 with ⟨h455, h449⟩ | ⟨h455, h449⟩
            · refine Wc.cT h455 ?_
              refine Wc.fx [] ⟨[tP 3 3, tP 4 4], [bC 3 (GTerm.q zl), (4, .cells GTerm.z [(3, .app 26)])], [(0, [(0, .ex 26 false (List.map GTerm.c vg))])]⟩ ?_
              refine Wc.exit ?_
              obtain rfl := Option.some.inj h449
              exact ⟨_, rfl, rfl⟩
            · refine Wc.cF h455 ?_
              refine Wc.fx [] ⟨[(0, (.v (.slx), [(0, .al (.a 0 0) [])])), tP 3 3, tP 4 4, tI 5 u14], [bC 3 (GTerm.q zl), (4, .cells GTerm.z [(3, .app 26)])], [(0, [(0, .ex 26 false (List.map GTerm.c vg))])]⟩ ?_
              refine Wc.skip ?_
              obtain ⟨uj, h456, h449⟩ := obind h449
              refine Wc.r2 [{}, {}, {}, {}, { v := some (.agg (GTerm.q uj)) }] ⟨[(0, (.v (.slx), [(0, .al (.a 0 0) [])])), tP 3 3, tP 4 4, tI 5 u14], [bC 3 (GTerm.q uj), (4, .cells GTerm.z [(3, .app 26)])], [(0, [(0, .ex 26 false (List.map GTerm.c vg))])]⟩ (.cons (ix_obl (c := GTerm.c) GTerm.c_len h456) (.cons (el_obl (sz := 4) (off := 0) (s := 4) (ag := true) (v := .agg (GTerm.q uj)) (c := GTerm.c) (GTerm.c_eq uj) (at'_spec h456).2 rfl (Nat.le_of_ble_eq_true rfl) rfl) .nil)) ?_
              refine Wc.r0 ⟨[(0, (.v (.slx), [(0, .al (.a 0 0) [])])), tP 3 3, tP 4 4, tI 5 (wr.i64 (u14 + 1))], [bC 3 (GTerm.q uj), (4, .cells GTerm.z [(3, .app 26)])], [(0, [(0, .ex 26 false (List.map GTerm.c vg))])]⟩ ?_
              exact ⟨_, Nat.lt_succ_self _, _, _, rfl, h449⟩
      · refine Wc.cF h450 ?_
        refine Wc.fx [] ⟨[tP 3 3, tP 4 4], [bC 3 (GTerm.q zl), (4, .cells GTerm.z [(3, .app 26)])], [(0, [(0, .ex 26 false (List.map GTerm.c vg))])]⟩ ?_
        refine Wc.exit ?_
        obtain rfl := Option.some.inj h449
        exact ⟨_, rfl, rfl⟩
  · rintro st ⟨u72, rfl, rfl⟩
    apply Wc.seq
    refine Wc.r0 ⟨[tP 4 4], [bC 4 (GTerm.q u72)], [(0, [(0, .ex 26 false (List.map GTerm.c vg))])]⟩ ?_
    obtain rfl := Option.some.inj h; exact Wc.ret dn

def pspec_l04Uni_same_L2 (k : Nat) (rspec_l04Uni_same : GL04Uni → GTerm → GTerm → Option (GL04Uni × Bool)) (ua : (List GTerm) × GTerm) (u2 : (List GTerm) × GTerm) : Nat → Int → GL04Uni → Option (Out (GL04Uni × Bool) GL04Uni)
  | 0, _, _ => none
  | m + 1, u1i, u20 =>
    if (decide (u1i < (ua.2.gKids.length : Int))) = true then
      (at' ua.2.gKids u1i).bind fun uz =>
      (at' u2.2.gKids u1i).bind fun u9a =>
      (rspec_l04Uni_same u20 uz u9a).bind fun u0r =>
      if (!u0r.2) = true then
        some (.ret (u0r.1, false))
      else
        pspec_l04Uni_same_L2 k rspec_l04Uni_same ua u2 m (wr.i64 (u1i + 1)) u0r.1
    else
      some (.done u20)
def pspec_l04Uni_same_J1 (k : Nat) (rspec_l04Uni_same : GL04Uni → GTerm → GTerm → Option (GL04Uni × Bool)) (ua : (List GTerm) × GTerm) (u2 : (List GTerm) × GTerm) (u8 : GL04Uni) (u9b : Bool) : Option (GL04Uni × Bool) :=
  if u9b = true then
    if (ua.2.gNum == u2.2.gNum) = true then
      some (GL04Uni.mk u2.1 (wr.i64 (u8.gPairs + 1)), true)
    else
      if (decide (ua.2.gNum > u2.2.gNum)) = true then
        (pspec_l04Uni_link k (GL04Uni.mk u2.1 (wr.i64 (u8.gPairs + 1))) ua.2.gNum u2.2).bind fun u3w =>
        some (u3w.1, u3w.2)
      else
        (pspec_l04Uni_link k (GL04Uni.mk u2.1 (wr.i64 (u8.gPairs + 1))) u2.2.gNum ua.2).bind fun u3x =>
        some (u3x.1, u3x.2)
  else
    if (ua.2.gKind == 1) = true then
      (pspec_l04Uni_bind k (GL04Uni.mk u2.1 (wr.i64 (u8.gPairs + 1))) ua.2.gNum u2.2).bind fun u3y =>
      some (u3y.1, u3y.2)
    else
      if (u2.2.gKind == 1) = true then
        (pspec_l04Uni_bind k (GL04Uni.mk u2.1 (wr.i64 (u8.gPairs + 1))) u2.2.gNum ua.2).bind fun u3z =>
        some (u3z.1, u3z.2)
      else
        if (ua.2.gKind != u2.2.gKind) = true then
          some (GL04Uni.mk u2.1 (wr.i64 (u8.gPairs + 1)), false)
        else
          if (!(sEq ua.2.gName u2.2.gName)) = true then
            some (GL04Uni.mk u2.1 (wr.i64 (u8.gPairs + 1)), false)
          else
            if (ua.2.gNum != u2.2.gNum) = true then
              some (GL04Uni.mk u2.1 (wr.i64 (u8.gPairs + 1)), false)
            else
              if ((ua.2.gKids.length : Int) != (u2.2.gKids.length : Int)) = true then
                some (GL04Uni.mk u2.1 (wr.i64 (u8.gPairs + 1)), false)
              else
                (pspec_l04Uni_same_L2 k rspec_l04Uni_same ua u2 k 0 (GL04Uni.mk u2.1 (wr.i64 (u8.gPairs + 1)))).bind fun out2 => match out2 with
                | .ret r => some r
                | .done u4e =>
                  some (u4e, true)
mutual
def pspec_l04Uni_same : Nat → GL04Uni → GTerm → GTerm → Option (GL04Uni × Bool)
  | 0, _, _, _ => none
  | k + 1, u8, u21, u1j =>
    if (decide ((wr.i64 (u8.gPairs + 1)) > 2000)) = true then
      some (GL04Uni.mk u8.gList (wr.i64 (u8.gPairs + 1)), false)
    else
      (pspec_l04Walk_i k u8.gList u21).bind fun ua =>
      (pspec_l04Walk_i k ua.1 u1j).bind fun u2 =>
      if (ua.2.gKind == 1) = true then
        pspec_l04Uni_same_J1 k (pspec_l04Uni_same k) ua u2 u8 (u2.2.gKind == 1)
      else
        pspec_l04Uni_same_J1 k (pspec_l04Uni_same k) ua u2 u8 false
end
set_option maxHeartbeats 4000000 in
theorem all_pspec_l04Uni_same : ∀ k : Nat, (∀ {hv0 : Value} {u8 : GL04Uni} {u21 : GTerm} {u1j : GTerm} {r : GL04Uni × Bool}, pspec_l04Uni_same k u8 u21 u1j = some r → FnO Try.prog 74 [.p [.raw hv0, aI u8.gPairs] (GUnifier.h0_26f u8.gList), .v (.agg (GTerm.q u21)) [], .v (.agg (GTerm.q u1j)) []] (.v (.bool r.2) []) [(0, .p [.raw hv0, aI r.1.gPairs] (GUnifier.h0_26f r.1.gList))]) := by
  intro k
  induction k with
  | zero =>
    · intro hv0 u8 u21 u1j r h
      exact (onone (by rw [pspec_l04Uni_same] at h; exact h)).elim
  | succ k ih =>
    have ih_pspec_l04Uni_same := @ih
    · intro hv0 u8 u21 u1j r h
      rw [pspec_l04Uni_same] at h
      refine FnO.o2 Try.func74 (rfl : Try.f74.body = some _) ?_
      intro w0 X0 Fin pv0 pb gt
      apply Wc.seq
      refine Wc.r0 ⟨[tP 0 1000000, tP 4 4, tP 5 5], [bC 4 (GTerm.q u21), bC 5 (GTerm.q u1j), (1000000, .cells [.raw hv0, aI u8.gPairs] (GUnifier.h0_26f u8.gList))], []⟩ ?_
      apply Wc.seq
      refine Wc.r0 ⟨[tP 0 1000000, tP 4 4, tP 5 5], [bC 4 (GTerm.q u21), bC 5 (GTerm.q u1j), (1000000, .cells [.raw hv0, aI (wr.i64 (u8.gPairs + 1))] (GUnifier.h0_26f u8.gList))], []⟩ ?_
      apply Wc.seq
      apply Wc.seq
      refine Wc.r0 ⟨[tP 0 1000000, tP 4 4, tP 5 5, tB 20 (decide ((wr.i64 (u8.gPairs + 1)) > 2000))], [bC 4 (GTerm.q u21), bC 5 (GTerm.q u1j), (1000000, .cells [.raw hv0, aI (wr.i64 (u8.gPairs + 1))] (GUnifier.h0_26f u8.gList))], []⟩ ?_
      rcases oif h with ⟨h448, h⟩ | ⟨h448, h⟩
      · refine Wc.cT h448 ?_
        apply Wc.seq
        refine Wc.r0 ⟨[tB 6 false], [(1000000, .cells [.raw hv0, aI (wr.i64 (u8.gPairs + 1))] (GUnifier.h0_26f u8.gList))], []⟩ ?_
        obtain rfl := Option.some.inj h; exact Wc.ret dn
      · refine Wc.cF h448 ?_
        refine Wc.fx [] ⟨[tP 0 1000000, tP 4 4, tP 5 5], [bC 4 (GTerm.q u21), bC 5 (GTerm.q u1j), (1000000, .cells [.raw hv0, aI (wr.i64 (u8.gPairs + 1))] (GUnifier.h0_26f u8.gList))], []⟩ ?_
        refine Wc.skip ?_
        apply Wc.seq
        obtain ⟨ua, h449, h⟩ := obind h
        refine Wc.every hmix [{}, {}, {}, {}, {}, { io := [0], r := some (.v (.agg (GTerm.q ua.2)) []), outs := [(0, .v .undef [(0, .ex 26 false (List.map GTerm.c ua.1))])] }] [] [0, 4, 5] [4, 5, 1000000] [] ⟨[tP 0 1000000, tP 4 4, tP 5 5], [bC 4 (GTerm.q ua.2), bC 5 (GTerm.q u1j), (1000000, .cells [.raw hv0, aI (wr.i64 (u8.gPairs + 1))] [(0, .ex 26 false (List.map GTerm.c ua.1))])], []⟩ _ 5 (by kernel_rfl) (.cons .nil (.cons .nil (.cons .nil (.cons .nil (.cons .nil (.cons (.cons (cspec_l04Walk_i h449) .nil) (.cons .nil .nil))))))) ?_
        apply Wc.seq
        obtain ⟨u2, h450, h⟩ := obind h
        refine Wc.every hmix [{}, {}, {}, {}, {}, { io := [0], r := some (.v (.agg (GTerm.q u2.2)) []), outs := [(0, .v .undef [(0, .ex 26 false (List.map GTerm.c u2.1))])] }] [] [0, 4, 5] [4, 5, 1000000] [] ⟨[tP 0 1000000, tP 4 4, tP 5 5], [bC 4 (GTerm.q ua.2), bC 5 (GTerm.q u2.2), (1000000, .cells [.raw hv0, aI (wr.i64 (u8.gPairs + 1))] [(0, .ex 26 false (List.map GTerm.c u2.1))])], []⟩ _ 5 (by kernel_rfl) (.cons .nil (.cons .nil (.cons .nil (.cons .nil (.cons .nil (.cons (.cons (cspec_l04Walk_i h450) .nil) (.cons .nil .nil))))))) ?_
        apply Wc.seq
        refine Wc.seqJ (fun st => ∃ (u9b : Bool), st = ⟨[tP 0 1000000, tP 4 4, tP 5 5, tB 40 u9b], [bC 4 (GTerm.q ua.2), bC 5 (GTerm.q u2.2), (1000000, .cells [.raw hv0, aI (wr.i64 (u8.gPairs + 1))] [(0, .ex 26 false (List.map GTerm.c u2.1))])], []⟩ ∧ pspec_l04Uni_same_J1 k (pspec_l04Uni_same k) ua u2 u8 u9b = some r) ?_ ?_
        · rcases oif h with ⟨h470, h⟩ | ⟨h470, h⟩
          · refine Wc.r2 [{}, {}, {}, { re := some (.bool true) }] ⟨[tP 0 1000000, tP 4 4, tP 5 5, tB 40 (u2.2.gKind == 1)], [bC 4 (GTerm.q ua.2), bC 5 (GTerm.q u2.2), (1000000, .cells [.raw hv0, aI (wr.i64 (u8.gPairs + 1))] [(0, .ex 26 false (List.map GTerm.c u2.1))])], []⟩ (.cons (congrArg AV.bool h470) .nil) ?_
            exact ⟨_, rfl, h⟩
          · refine Wc.r2 [{}, {}, {}, { re := some (.bool false) }] ⟨[tP 0 1000000, tP 4 4, tP 5 5, tB 40 false], [bC 4 (GTerm.q ua.2), bC 5 (GTerm.q u2.2), (1000000, .cells [.raw hv0, aI (wr.i64 (u8.gPairs + 1))] [(0, .ex 26 false (List.map GTerm.c u2.1))])], []⟩ (.cons (congrArg AV.bool h470) .nil) ?_
            exact ⟨_, rfl, h⟩
        · rintro st ⟨u9b, rfl, h⟩
          rcases oif h with ⟨h451, h⟩ | ⟨h451, h⟩
          · refine Wc.cT h451 ?_
            apply Wc.seq
            apply Wc.seq
            refine Wc.r0 ⟨[tP 0 1000000, tP 4 4, tP 5 5, tB 45 (ua.2.gNum == u2.2.gNum)], [bC 4 (GTerm.q ua.2), bC 5 (GTerm.q u2.2), (1000000, .cells [.raw hv0, aI (wr.i64 (u8.gPairs + 1))] [(0, .ex 26 false (List.map GTerm.c u2.1))])], []⟩ ?_
            rcases oif h with ⟨h452, h⟩ | ⟨h452, h⟩
            · refine Wc.cT h452 ?_
              apply Wc.seq
              refine Wc.r0 ⟨[tB 6 true], [(1000000, .cells [.raw hv0, aI (wr.i64 (u8.gPairs + 1))] [(0, .ex 26 false (List.map GTerm.c u2.1))])], []⟩ ?_
              obtain rfl := Option.some.inj h; exact Wc.ret dn
            · refine Wc.cF h452 ?_
              refine Wc.fx [] ⟨[tP 0 1000000, tP 4 4, tP 5 5], [bC 4 (GTerm.q ua.2), bC 5 (GTerm.q u2.2), (1000000, .cells [.raw hv0, aI (wr.i64 (u8.gPairs + 1))] [(0, .ex 26 false (List.map GTerm.c u2.1))])], []⟩ ?_
              refine Wc.skip ?_
              apply Wc.seq
              apply Wc.seq
              refine Wc.r0 ⟨[tP 0 1000000, tP 4 4, tP 5 5, tB 50 (decide (ua.2.gNum > u2.2.gNum))], [bC 4 (GTerm.q ua.2), bC 5 (GTerm.q u2.2), (1000000, .cells [.raw hv0, aI (wr.i64 (u8.gPairs + 1))] [(0, .ex 26 false (List.map GTerm.c u2.1))])], []⟩ ?_
              rcases oif h with ⟨h453, h⟩ | ⟨h453, h⟩
              · refine Wc.cT h453 ?_
                apply Wc.seq
                obtain ⟨u3w, h454, h⟩ := obind h
                refine Wc.r2 [{}, {}, {}, {}, { r := some (.v (.bool u3w.2) []), outs := [(0, .p [.raw hv0, aI u3w.1.gPairs] (GUnifier.h0_26f u3w.1.gList))] }] ⟨[tB 6 u3w.2], [(1000000, .cells [.raw hv0, aI u3w.1.gPairs] (GUnifier.h0_26f u3w.1.gList))], []⟩ (.cons (cspec_l04Uni_link (hv0 := hv0) h454) .nil) ?_
                obtain rfl := Option.some.inj h; exact Wc.ret dn
              · refine Wc.cF h453 ?_
                refine Wc.fx [] ⟨[tP 0 1000000, tP 4 4, tP 5 5], [bC 4 (GTerm.q ua.2), bC 5 (GTerm.q u2.2), (1000000, .cells [.raw hv0, aI (wr.i64 (u8.gPairs + 1))] [(0, .ex 26 false (List.map GTerm.c u2.1))])], []⟩ ?_
                refine Wc.skip ?_
                apply Wc.seq
                obtain ⟨u3x, h455, h⟩ := obind h
                refine Wc.r2 [{}, {}, {}, {}, { r := some (.v (.bool u3x.2) []), outs := [(0, .p [.raw hv0, aI u3x.1.gPairs] (GUnifier.h0_26f u3x.1.gList))] }] ⟨[tB 6 u3x.2], [(1000000, .cells [.raw hv0, aI u3x.1.gPairs] (GUnifier.h0_26f u3x.1.gList))], []⟩ (.cons (cspec_l04Uni_link (hv0 := hv0) h455) .nil) ?_
                obtain rfl := Option.some.inj h; exact Wc.ret dn
          · refine Wc.cF h451 ?_
            refine Wc.fx [] ⟨[tP 0 1000000, tP 4 4, tP 5 5], [bC 4 (GTerm.q ua.2), bC 5 (GTerm.q u2.2), (1000000, .cells [.raw hv0, aI (wr.i64 (u8.gPairs + 1))] [(0, .ex 26 false (List.map GTerm.c u2.1))])], []⟩ ?_
            refine Wc.skip ?_
            apply Wc.seq
            apply Wc.seq
            refine Wc.r0 ⟨[tP 0 1000000, tP 4 4, tP 5 5, tB 63 (ua.2.gKind == 1)], [bC 4 (GTerm.q ua.2), bC 5 (GTerm.q u2.2), (1000000, .cells [.raw hv0, aI (wr.i64 (u8.gPairs + 1))] [(0, .ex 26 false (List.map GTerm.c u2.1))])], []⟩ ?_
            rcases oif h with ⟨h456, h⟩ | ⟨h456, h⟩
            · refine Wc.cT h456 ?_
              apply Wc.seq
              obtain ⟨u3y, h457, h⟩ := obind h
              refine Wc.r2 [{}, {}, {}, {}, { r := some (.v (.bool u3y.2) []), outs := [(0, .p [.raw hv0, aI u3y.1.gPairs] (GUnifier.h0_26f u3y.1.gList))] }] ⟨[tB 6 u3y.2], [(1000000, .cells [.raw hv0, aI u3y.1.gPairs] (GUnifier.h0_26f u3y.1.gList))], []⟩ (.cons (cspec_l04Uni_bind (hv0 := hv0) h457) .nil) ?_
              obtain rfl := Option.some.inj h; exact Wc.ret dn
            · refine Wc.cF h456 ?_
              refine Wc.fx [] ⟨[tP 0 1000000, tP 4 4, tP 5 5], [bC 4 (GTerm.q ua.2), bC 5 (GTerm.q u2.2), (1000000, .cells [.raw hv0, aI (wr.i64 (u8.gPairs + 1))] [(0, .ex 26 false (List.map GTerm.c u2.1))])], []⟩ ?_
              refine Wc.skip ?_
              apply Wc.seq
              apply Wc.seq
              refine Wc.r0 ⟨[tP 0 1000000, tP 4 4, tP 5 5, tB 71 (u2.2.gKind == 1)], [bC 4 (GTerm.q ua.2), bC 5 (GTerm.q u2.2), (1000000, .cells [.raw hv0, aI (wr.i64 (u8.gPairs + 1))] [(0, .ex 26 false (List.map GTerm.c u2.1))])], []⟩ ?_
              rcases oif h with ⟨h458, h⟩ | ⟨h458, h⟩
              · refine Wc.cT h458 ?_
                apply Wc.seq
                obtain ⟨u3z, h459, h⟩ := obind h
                refine Wc.r2 [{}, {}, {}, {}, { r := some (.v (.bool u3z.2) []), outs := [(0, .p [.raw hv0, aI u3z.1.gPairs] (GUnifier.h0_26f u3z.1.gList))] }] ⟨[tB 6 u3z.2], [(1000000, .cells [.raw hv0, aI u3z.1.gPairs] (GUnifier.h0_26f u3z.1.gList))], []⟩ (.cons (cspec_l04Uni_bind (hv0 := hv0) h459) .nil) ?_
                obtain rfl := Option.some.inj h; exact Wc.ret dn
              · refine Wc.cF h458 ?_
                refine Wc.fx [] ⟨[tP 0 1000000, tP 4 4, tP 5 5], [bC 4 (GTerm.q ua.2), bC 5 (GTerm.q u2.2), (1000000, .cells [.raw hv0, aI (wr.i64 (u8.gPairs + 1))] [(0, .ex 26 false (List.map GTerm.c u2.1))])], []⟩ ?_
                refine Wc.skip ?_
                apply Wc.seq
                apply Wc.seq
                rcases oif h with ⟨h460, h⟩ | ⟨h460, h⟩
                · refine Wc.r2 [{}, {}, {}, {}, {}, { re := some (.bool true) }] ⟨[tP 0 1000000, tP 4 4, tP 5 5, tB 104 true], [bC 4 (GTerm.q ua.2), bC 5 (GTerm.q u2.2), (1000000, .cells [.raw hv0, aI (wr.i64 (u8.gPairs + 1))] [(0, .ex 26 false (List.map GTerm.c u2.1))])], []⟩ (.cons (congrArg AV.bool h460) .nil) ?_
                  refine Wc.cT rfl ?_
                  apply Wc.seq
                  refine Wc.r0 ⟨[tB 6 false], [(1000000, .cells [.raw hv0, aI (wr.i64 (u8.gPairs + 1))] [(0, .ex 26 false (List.map GTerm.c u2.1))])], []⟩ ?_
                  obtain rfl := Option.some.inj h; exact Wc.ret dn
                · rcases oif h with ⟨h461, h⟩ | ⟨h461, h⟩
                  · refine Wc.r2 [{}, {}, {}, {}, {}, { re := some (.bool false) }, {}, {}, {}, {}, {}, {}, { re := some (.bool true) }] ⟨[tP 0 1000000, tP 4 4, tP 5 5, tB 104 true], [bC 4 (GTerm.q ua.2), bC 5 (GTerm.q u2.2), (1000000, .cells [.raw hv0, aI (wr.i64 (u8.gPairs + 1))] [(0, .ex 26 false (List.map GTerm.c u2.1))])], []⟩ (.cons (congrArg AV.bool h460) (.cons (congrArg AV.bool h461) .nil)) ?_
                    refine Wc.cT rfl ?_
                    apply Wc.seq
                    refine Wc.r0 ⟨[tB 6 false], [(1000000, .cells [.raw hv0, aI (wr.i64 (u8.gPairs + 1))] [(0, .ex 26 false (List.map GTerm.c u2.1))])], []⟩ ?_
                    obtain rfl := Option.some.inj h; exact Wc.ret dn
                  · rcases oif h with ⟨h462, h⟩ | ⟨h462, h⟩
                    · refine Wc.r2 [{}, {}, {}, {}, {}, { re := some (.bool false) }, {}, {}, {}, {}, {}, {}, { re := some (.bool false) }, {}, {}, {}, {}, {}, {}, { re := some (.bool true) }] ⟨[tP 0 1000000, tP 4 4, tP 5 5, tB 104 true], [bC 4 (GTerm.q ua.2), bC 5 (GTerm.q u2.2), (1000000, .cells [.raw hv0, aI (wr.i64 (u8.gPairs + 1))] [(0, .ex 26 false (List.map GTerm.c u2.1))])], []⟩ (.cons (congrArg AV.bool h460) (.cons (congrArg AV.bool h461) (.cons (congrArg AV.bool h462) .nil))) ?_
                      refine Wc.cT rfl ?_
                      apply Wc.seq
                      refine Wc.r0 ⟨[tB 6 false], [(1000000, .cells [.raw hv0, aI (wr.i64 (u8.gPairs + 1))] [(0, .ex 26 false (List.map GTerm.c u2.1))])], []⟩ ?_
                      obtain rfl := Option.some.inj h; exact Wc.ret dn
                    · refine Wc.r2 [{}, {}, {}, {}, {}, { re := some (.bool false) }, {}, {}, {}, {}, {}, {}, { re := some (.bool false) }, {}, {}, {}, {}, {}, {}, { re := some (.bool false) }, {}, {}, { v := some (aI (ua.2.gKids.length : Int)) }, {}, {}, { v := some (aI (u2.2.gKids.length : Int)) }] ⟨[tP 0 1000000, tP 4 4, tP 5 5, tB 104 ((ua.2.gKids.length : Int) != (u2.2.gKids.length : Int))], [bC 4 (GTerm.q ua.2), bC 5 (GTerm.q u2.2), (1000000, .cells [.raw hv0, aI (wr.i64 (u8.gPairs + 1))] [(0, .ex 26 false (List.map GTerm.c u2.1))])], []⟩ (.cons (congrArg AV.bool h460) (.cons (congrArg AV.bool h461) (.cons (congrArg AV.bool h462) (.cons (len_obl GTerm.c ua.2.gKids) (.cons (len_obl GTerm.c u2.2.gKids) .nil))))) ?_
                      rcases oif h with ⟨h463, h⟩ | ⟨h463, h⟩
                      · refine Wc.cT h463 ?_
                        apply Wc.seq
                        refine Wc.r0 ⟨[tB 6 false], [(1000000, .cells [.raw hv0, aI (wr.i64 (u8.gPairs + 1))] [(0, .ex 26 false (List.map GTerm.c u2.1))])], []⟩ ?_
                        obtain rfl := Option.some.inj h; exact Wc.ret dn
                      · refine Wc.cF h463 ?_
                        refine Wc.fx [] ⟨[tP 0 1000000, tP 4 4, tP 5 5], [bC 4 (GTerm.q ua.2), bC 5 (GTerm.q u2.2), (1000000, .cells [.raw hv0, aI (wr.i64 (u8.gPairs + 1))] [(0, .ex 26 false (List.map GTerm.c u2.1))])], []⟩ ?_
                        refine Wc.skip ?_
                        apply Wc.seq
                        apply Wc.seq
                        refine Wc.r0 ⟨[tP 0 1000000, tP 4 4, tP 5 5, tI 7 0], [bC 4 (GTerm.q ua.2), bC 5 (GTerm.q u2.2), (1000000, .cells [.raw hv0, aI (wr.i64 (u8.gPairs + 1))] [(0, .ex 26 false (List.map GTerm.c u2.1))])], []⟩ ?_
                        obtain ⟨out2, h464, h⟩ := obind h
                        refine Wc.lastJ (fun st => ∃ (u4e : GL04Uni), out2 = .done u4e ∧ st = ⟨[], [(1000000, .cells [.raw hv0, aI u4e.gPairs] (GUnifier.h0_26f u4e.gList))], []⟩) ?_ ?_
                        · refine Wc.block ?_
                          refine Wc.loop (fun m st => ∃ (u1i : Int) (u20 : GL04Uni), st = ⟨[tP 0 1000000, tP 4 4, tP 5 5, tI 7 u1i], [bC 4 (GTerm.q ua.2), bC 5 (GTerm.q u2.2), (1000000, .cells [.raw hv0, aI u20.gPairs] (GUnifier.h0_26f u20.gList))], []⟩ ∧ pspec_l04Uni_same_L2 k (pspec_l04Uni_same k) ua u2 m u1i u20 = some out2) ?_ k ⟨_, _, rfl, h464⟩
                          rintro m st ⟨u1i, u20, rfl, h464⟩
                          cases m with
                          | zero => exact (onone h464).elim
                          | succ m =>
                            apply Wc.seq
                            apply Wc.seq
                            refine Wc.r2 [{}, {}, {}, { v := some (aI (ua.2.gKids.length : Int)) }] ⟨[tP 0 1000000, tP 4 4, tP 5 5, tI 7 u1i, tB 109 (decide (u1i < (ua.2.gKids.length : Int)))], [bC 4 (GTerm.q ua.2), bC 5 (GTerm.q u2.2), (1000000, .cells [.raw hv0, aI u20.gPairs] (GUnifier.h0_26f u20.gList))], []⟩ (.cons (len_obl GTerm.c ua.2.gKids) .nil) ?_
                            rcases oif h464 with ⟨h465, h464⟩ | ⟨h465, h464⟩
                            · refine Wc.cT h465 ?_
                              refine Wc.fx [] ⟨[tP 0 1000000, tP 4 4, tP 5 5, tI 7 u1i], [bC 4 (GTerm.q ua.2), bC 5 (GTerm.q u2.2), (1000000, .cells [.raw hv0, aI u20.gPairs] (GUnifier.h0_26f u20.gList))], []⟩ ?_
                              refine Wc.skip ?_
                              apply Wc.seq
                              refine Wc.block ?_
                              apply Wc.seq
                              obtain ⟨uz, h466, h464⟩ := obind h464
                              obtain ⟨u9a, h467, h464⟩ := obind h464
                              obtain ⟨u0r, h468, h464⟩ := obind h464
                              refine Wc.draw hmix [{}, {}, {}, {}, { v := some (.vptr (GTerm.q uz)) }, {}, {}, {}, {}, { v := some (.vptr (GTerm.q u9a)) }, {}, { r := some (.v (.bool u0r.2) []), outs := [(0, .p [.raw hv0, aI u0r.1.gPairs] (GUnifier.h0_26f u0r.1.gList))] }] [] [0, 4, 5, 7, 124] [4, 5, 1000000] [] ⟨[tP 0 1000000, tP 4 4, tP 5 5, tI 7 u1i, tB 124 (!u0r.2)], [bC 4 (GTerm.q ua.2), bC 5 (GTerm.q u2.2), (1000000, .cells [.raw hv0, aI u0r.1.gPairs] (GUnifier.h0_26f u0r.1.gList))], []⟩ _ (by kernel_rfl) (fun X => by kernel_rfl) (.cons (at_obl (c := GTerm.c) (GTerm.c_eq uz) GTerm.c_len h466) (.cons (len_ok 4 (GTerm.q uz)) (.cons (at_obl (c := GTerm.c) (GTerm.c_eq u9a) GTerm.c_len h467) (.cons (len_ok 4 (GTerm.q u9a)) (.cons (ih_pspec_l04Uni_same (hv0 := hv0) h468) .nil))))) ?_
                              rcases oif h464 with ⟨h469, h464⟩ | ⟨h469, h464⟩
                              · refine Wc.cT h469 ?_
                                apply Wc.seq
                                refine Wc.r0 ⟨[tB 6 false], [(1000000, .cells [.raw hv0, aI u0r.1.gPairs] (GUnifier.h0_26f u0r.1.gList))], []⟩ ?_
                                refine Wc.ret ?_
                                obtain rfl := Option.some.inj h464
                                obtain rfl := Option.some.inj h
                                exact ⟨.inl rfl, by kernel_rfl, by kernel_rfl⟩
                              · refine Wc.cF h469 ?_
                                refine Wc.fx [] ⟨[tP 0 1000000, tP 4 4, tP 5 5, tI 7 u1i], [bC 4 (GTerm.q ua.2), bC 5 (GTerm.q u2.2), (1000000, .cells [.raw hv0, aI u0r.1.gPairs] (GUnifier.h0_26f u0r.1.gList))], []⟩ ?_
                                refine Wc.skip ?_
                                refine Wc.r0 ⟨[tP 0 1000000, tP 4 4, tP 5 5, tI 7 (wr.i64 (u1i + 1))], [bC 4 (GTerm.q ua.2), bC 5 (GTerm.q u2.2), (1000000, .cells [.raw hv0, aI u0r.1.gPairs] (GUnifier.h0_26f u0r.1.gList))], []⟩ ?_
                                exact ⟨_, Nat.lt_succ_self _, _, _, rfl, h464⟩
                            · refine Wc.cF h465 ?_
                              refine Wc.fx [] ⟨[], [(1000000, .cells [.raw hv0, aI u20.gPairs] (GUnifier.h0_26f u20.gList))], []⟩ ?_
                              refine Wc.exit ?_
                              obtain rfl := Option.some.inj h464
                              exact ⟨_, rfl, rfl⟩
                        · rintro st ⟨u4e, rfl, rfl⟩
                          apply Wc.seq
                          refine Wc.r0 ⟨[tB 6 true], [(1000000, .cells [.raw hv0, aI u4e.gPairs] (GUnifier.h0_26f u4e.gList))], []⟩ ?_
                          obtain rfl := Option.some.inj h; exact Wc.ret dn
theorem cspec_l04Uni_same {k : Nat} {hv0 : Value} {u8 : GL04Uni} {u21 : GTerm} {u1j : GTerm} {r : GL04Uni × Bool} (h : pspec_l04Uni_same k u8 u21 u1j = some r) : FnO Try.prog 74 [.p [.raw hv0, aI u8.gPairs] (GUnifier.h0_26f u8.gList), .v (.agg (GTerm.q u21)) [], .v (.agg (GTerm.q u1j)) []] (.v (.bool r.2) []) [(0, .p [.raw hv0, aI r.1.gPairs] (GUnifier.h0_26f r.1.gList))] := (all_pspec_l04Uni_same k) h

def pspec_l04Unify (k : Nat) (l : List GTerm) (x y : GTerm) : Option (List GTerm × Bool) :=
  (pspec_l04Uni_same k (GL04Uni.mk l 0) x y).bind fun r => some (r.1.gList, r.2)
theorem cspec_l04Unify {k : Nat} {l : List GTerm} {x y : GTerm} {r : List GTerm × Bool} (h : pspec_l04Unify k l x y = some r) : FnO Try.prog 73 [.io .slx [(0, .ex 26 false (List.map GTerm.c l))], .v (.agg (GTerm.q x)) [], .v (.agg (GTerm.q y)) []] (.v (.bool r.2) []) [(0, .v .undef [(0, .ex 26 false (List.map GTerm.c r.1))])] := by
  obtain ⟨q, hq, h⟩ := obind h
  obtain rfl := Option.some.inj h
  exact unify_O uni_road rfl rfl rfl rfl (pz := q.1.gPairs) (fun hv => cspec_l04Uni_same (hv0 := hv) hq)

def pspec_l04UnifyRaw_J1 (k : Nat) (v7 : GBinds) (u9c : Bool) (u4f : GBinds) : Option (GBinds × Bool) :=
  if u9c = true then
    if ([] : List GTerm).length + v7.gList.length ≤ 1073741824 then
      some (v7, false)
    else none
  else
    some (u4f, true)
def pspec_l04UnifyRaw (k : Nat) (v7 : GBinds) (u4t : GTerm) (u4u : GTerm) : Option (GBinds × Bool) :=
  if ([] : List GTerm).length + v7.gList.length ≤ 1073741824 then
    (pspec_TermOk k u4t).bind fun u9d =>
    if (!u9d) = true then
      pspec_l04UnifyRaw_J1 k v7 true v7
    else
      (pspec_TermOk k u4u).bind fun ubw =>
      if (!ubw) = true then
        pspec_l04UnifyRaw_J1 k v7 true v7
      else
        (pspec_l04Unify k v7.gList u4t u4u).bind fun u4v =>
        pspec_l04UnifyRaw_J1 k v7 (!u4v.2) (GBinds.mk u4v.1)
  else none
theorem cspec_l04UnifyRaw {k : Nat} {v7 : GBinds} {u4t : GTerm} {u4u : GTerm} {r : GBinds × Bool} (h : pspec_l04UnifyRaw k v7 u4t u4u = some r) : FnO Try.prog 71 [.v (.agg [.sl (List.map GTerm.c v7.gList)]) [], .v (.agg (GTerm.q u4t)) [], .v (.agg (GTerm.q u4u)) []] (.v (.tup [.agg [.sl (List.map GTerm.c r.1.gList)], .bool r.2]) []) [] := by
  refine FnO.o2 Try.func71 (rfl : Try.f71.body = some _) ?_
  intro w0 X0 Fin pv0 pb gt
  unfold pspec_l04UnifyRaw at h
  apply Wc.seq
  refine Wc.r0 ⟨[tP 3 3, tP 4 4, tP 5 5, tP 6 6], [bC 3 [.sl (List.map GTerm.c v7.gList)], bC 4 (GTerm.q u4t), bC 5 (GTerm.q u4u), (6, .cells GBinds.z [(0, .app 26)])], []⟩ ?_
  apply Wc.seq
  obtain ⟨h479, h⟩ := oguard h
  refine Wc.r2 [{ c := some (List.map GTerm.c []), md := 1 }, {}, {}, { c := some (List.map GTerm.c v7.gList), tk := [9], md := 1 }, { tk := [12] }, {}, { tk := [13] }] ⟨[tP 3 3, tP 4 4, tP 5 5, tP 6 6, tP 8 8], [bC 3 [.sl (List.map GTerm.c v7.gList)], bC 4 (GTerm.q u4t), bC 5 (GTerm.q u4u), (6, .cells GBinds.z [(0, .app 26)]), (8, .cells [.slx] (GUnifier.h0_26f v7.gList))], []⟩ (.cons (cl_nil GTerm.c) (.cons (app_re0 GTerm.c v7.gList) (.cons (app_leaf (c := GTerm.c) (ys := v7.gList) GTerm.c_leaf) (.cons (app_obl2 (c := GTerm.c) (xs := []) (ys := v7.gList) GTerm.c_len h479) .nil)))) ?_
  apply Wc.seq
  refine Wc.seqJ (fun st => ∃ (u9c : Bool) (u4f : GBinds), st = ⟨[tP 3 3, tP 6 6, tP 8 8, tB 29 u9c], [bC 3 [.sl (List.map GTerm.c v7.gList)], (6, .cells GBinds.z [(0, .app 26)]), (8, .cells [.slx] (GUnifier.h0_26f u4f.gList))], []⟩ ∧ pspec_l04UnifyRaw_J1 k v7 u9c u4f = some r) ?_ ?_
  · obtain ⟨u9d, h482, h⟩ := obind h
    rcases oif h with ⟨h483, h⟩ | ⟨h483, h⟩
    · refine Wc.r2 [{}, { r := some (.v (.bool u9d) []) }, {}, { re := some (.bool true) }] ⟨[tP 3 3, tP 6 6, tP 8 8, tB 29 true], [bC 3 [.sl (List.map GTerm.c v7.gList)], (6, .cells GBinds.z [(0, .app 26)]), (8, .cells [.slx] (GUnifier.h0_26f v7.gList))], []⟩ (.cons (cspec_TermOk h482) (.cons (congrArg AV.bool h483) .nil)) ?_
      exact ⟨_, _, rfl, h⟩
    · obtain ⟨ubw, h484, h⟩ := obind h
      rcases oif h with ⟨h485, h⟩ | ⟨h485, h⟩
      · refine Wc.r2 [{}, { r := some (.v (.bool u9d) []) }, {}, { re := some (.bool false) }, {}, { r := some (.v (.bool ubw) []) }, {}, {}, { re := some (.bool true) }] ⟨[tP 3 3, tP 6 6, tP 8 8, tB 29 true], [bC 3 [.sl (List.map GTerm.c v7.gList)], (6, .cells GBinds.z [(0, .app 26)]), (8, .cells [.slx] (GUnifier.h0_26f v7.gList))], []⟩ (.cons (cspec_TermOk h482) (.cons (congrArg AV.bool h483) (.cons (cspec_TermOk h484) (.cons (congrArg AV.bool h485) .nil)))) ?_
        exact ⟨_, _, rfl, h⟩
      · obtain ⟨u4v, h486, h⟩ := obind h
        refine Wc.r2 [{}, { r := some (.v (.bool u9d) []) }, {}, { re := some (.bool false) }, {}, { r := some (.v (.bool ubw) []) }, {}, {}, { re := some (.bool false) }, {}, {}, {}, {}, { io := [0], r := some (.v (.bool u4v.2) []), outs := [(0, .v .undef [(0, .ex 26 false (List.map GTerm.c u4v.1))])] }] ⟨[tP 3 3, tP 6 6, tP 8 8, tB 29 (!u4v.2)], [bC 3 [.sl (List.map GTerm.c v7.gList)], (6, .cells GBinds.z [(0, .app 26)]), (8, .cells [.slx] [(0, .ex 26 false (List.map GTerm.c u4v.1))])], []⟩ (.cons (cspec_TermOk h482) (.cons (congrArg AV.bool h483) (.cons (cspec_TermOk h484) (.cons (congrArg AV.bool h485) (.cons (cspec_l04Unify h486) .nil))))) ?_
        exact ⟨_, _, rfl, h⟩
  · rintro st ⟨u9c, u4f, rfl, h⟩
    rcases oif h with ⟨h480, h⟩ | ⟨h480, h⟩
    · refine Wc.cT h480 ?_
      apply Wc.seq
      obtain ⟨h481, h⟩ := oguard h
      refine Wc.r2 [{ c := some (List.map GTerm.c []) }, {}, {}, { c := some (List.map GTerm.c v7.gList), tk := [30] }, { tk := [33] }, { tk := [34] }] ⟨[tP 6 6, tB 7 false], [(6, .cells [.sl (List.map GTerm.c v7.gList)] [(0, .app 26)])], []⟩ (.cons (cl_nil GTerm.c) (.cons (app_re0 GTerm.c v7.gList) (.cons (app_leaf (c := GTerm.c) (ys := v7.gList) GTerm.c_leaf) (.cons (app_obl2 (c := GTerm.c) (xs := []) (ys := v7.gList) GTerm.c_len h481) .nil)))) ?_
      refine Wc.fx [.un (.b 6 0)] ⟨[tP 6 6, tB 7 false], [bC 6 [.sl (List.map GTerm.c v7.gList)]], []⟩ ?_
      obtain rfl := Option.some.inj h; exact Wc.ret dn
    · refine Wc.cF h480 ?_
      refine Wc.fx [] ⟨[tP 6 6, tP 8 8], [(6, .cells GBinds.z [(0, .app 26)]), (8, .cells [.slx] (GUnifier.h0_26f u4f.gList))], []⟩ ?_
      refine Wc.skip ?_
      apply Wc.seq
      refine Wc.r1 [{ md := 1 }, { tk := [35] }] ⟨[tP 6 6, tB 7 true], [(6, .cells [.slx] (GUnifier.h0_26f u4f.gList))], []⟩ ?_
      refine Wc.fx [.sh (.b 6 0)] ⟨[tP 6 6, tB 7 true], [bC 6 [.sl (List.map GTerm.c u4f.gList)]], []⟩ ?_
      obtain rfl := Option.some.inj h; exact Wc.ret dn

def pspec_l34Binds (k : Nat) (u9e : GBinds) : Option GBinds :=
  (pspec_l34Terms k u9e.gList).bind fun u9f =>
  some (GBinds.mk u9f)


def pspec_Unify (k : Nat) (u9g : GBinds) (u9h : GTerm) (u9i : GTerm) : Option (GBinds × Bool) :=
  (pspec_l04UnifyRaw k u9g u9h u9i).bind fun u4g =>
  (pspec_l34Binds k u4g.1).bind fun ubx =>
  some (ubx, u4g.2)


def pspec_l04Binds_L1 (k : Nat) : Nat → Int → GBinds → GL01Cur → Option (Out (GL01Cur × GBinds) (GBinds × GL01Cur))
  | 0, _, _, _ => none
  | m + 1, u2h, u3a, u9j =>
    (pspec_l01Below k u9j 4).bind fun u3b =>
    if (decide (u2h < u3b.2)) = true then
      (pspec_l03Term k u3b.1).bind fun u4w =>
      (pspec_l03Term k u4w.1).bind fun u4x =>
      (pspec_Unify k u3a u4w.2 u4x.2).bind fun u73 =>
      pspec_l04Binds_L1 k m (wr.i64 (u2h + 1)) u73.1 u4x.1
    else
      some (.done (u3a, u3b.1))
def pspec_l04Binds (k : Nat) (u4y : GL01Cur) : Option (GL01Cur × GBinds) :=
  (pspec_BindsNew k 4).bind fun u9k =>
  (pspec_l04Binds_L1 k k 0 u9k u4y).bind fun out1 => match out1 with
  | .ret r => some r
  | .done (u74, u75) =>
    some (u75, u74)


def pspec_l34Terms_d_L1 (k : Nat) (rspec_l34Term_d : GTerm → Option GTerm) (rspec_l34Terms_d : (List GTerm) → Option (List GTerm)) (zb : List GTerm) : Nat → (List GTerm) → Int → Option (Out (List GTerm) (List GTerm))
  | 0, _, _ => none
  | m + 1, u15, zc =>
    if (decide (zc < (zb.length : Int))) = true then
      (at' zb zc).bind fun u9l =>
      (rspec_l34Term_d u9l).bind fun u22 =>
      if u15.length + [u22].length ≤ 1073741824 then
        pspec_l34Terms_d_L1 k rspec_l34Term_d rspec_l34Terms_d zb m (u15 ++ [u22]) (wr.i64 (zc + 1))
      else none
    else
      some (.done u15)
mutual
def pspec_l34Term_d : Nat → GTerm → Option GTerm
  | 0, _ => none
  | k + 1, u16 =>
    (pspec_l34Terms_d k u16.gKids).bind fun u9m =>
    some (GTerm.mk u16.gKind u16.gName u16.gNum u9m)
def pspec_l34Terms_d : Nat → (List GTerm) → Option (List GTerm)
  | 0, _ => none
  | k + 1, zb =>
    (pspec_l34Terms_d_L1 k (pspec_l34Term_d k) (pspec_l34Terms_d k) zb k [] 0).bind fun out1 => match out1 with
    | .ret r => some r
    | .done u76 =>
      some u76
end
theorem all_pspec_l34Term_d : ∀ k : Nat, (∀ {u16 : GTerm} {r : GTerm}, pspec_l34Term_d k u16 = some r → FnO Try.prog 22 [.v (.agg (GTerm.q u16)) []] (.v (.agg (GTerm.qx r)) (GTerm.h3_26t r)) []) ∧
    (∀ {zb : List GTerm} {r : (List GTerm)}, pspec_l34Terms_d k zb = some r → FnO Try.prog 40 [.v (.sl (List.map GTerm.c zb)) []] (.v (.slx) [(0, .ex 26 true (List.map GTerm.c r))]) []) := by
  intro k
  induction k with
  | zero =>
    refine ⟨?_, ?_⟩
    · intro u16 r h
      exact (onone (by rw [pspec_l34Term_d] at h; exact h)).elim
    · intro zb r h
      exact (onone (by rw [pspec_l34Terms_d] at h; exact h)).elim
  | succ k ih =>
    obtain ⟨ih_pspec_l34Term_d, ih_pspec_l34Terms_d⟩ := ih
    refine ⟨?_, ?_⟩
    · intro u16 r h
      rw [pspec_l34Term_d] at h
      refine FnO.o2 Try.func22 (rfl : Try.f22.body = some _) ?_
      intro w0 X0 Fin pv0 pb gt
      apply Wc.seq
      refine Wc.r0 ⟨[tP 1 1, tP 2 2], [bC 1 (GTerm.q u16), (2, .cells GTerm.z [(3, .app 26)])], []⟩ ?_
      apply Wc.seq
      obtain ⟨u9m, h507, h⟩ := obind h
      refine Wc.r2 [{}, {}, { r := some (.v (.slx) [(0, .ex 26 true (List.map GTerm.c u9m))]) }, {}, { tk := [5] }] ⟨[tP 1 1, tP 2 2], [(1, .cells (GTerm.qx u16) [(3, .ex 26 true (List.map GTerm.c u9m))]), (2, .cells GTerm.z [(3, .app 26)])], []⟩ (.cons (ih_pspec_l34Terms_d h507) .nil) ?_
      apply Wc.seq
      refine Wc.r1 [{ md := 1 }, { tk := [7] }] ⟨[tP 2 2], [(2, .cells (GTerm.qx u16) [(3, .ex 26 true (List.map GTerm.c u9m))])], []⟩ ?_
      obtain rfl := Option.some.inj h; exact Wc.ret dn
    · intro zb r h
      rw [pspec_l34Terms_d] at h
      refine FnO.o2 Try.func40 (rfl : Try.f40.body = some _) ?_
      intro w0 X0 Fin pv0 pb gt
      apply Wc.seq
      refine Wc.r0 ⟨[tV 0 (.sl (List.map GTerm.c zb))], [], []⟩ ?_
      apply Wc.seq
      refine Wc.r2 [{ c := some (List.map GTerm.c []), md := 2 }, { tk := [5] }] ⟨[tV 0 (.sl (List.map GTerm.c zb)), (3, (.v (.slx), [(0, .ex 26 true (List.map GTerm.c []))]))], [], []⟩ (.cons (cl_nil GTerm.c) .nil) ?_
      apply Wc.seq
      apply Wc.seq
      refine Wc.r0 ⟨[tV 0 (.sl (List.map GTerm.c zb)), (3, (.v (.slx), [(0, .ex 26 true (List.map GTerm.c []))])), tI 4 0], [], []⟩ ?_
      obtain ⟨out1, h508, h⟩ := obind h
      refine Wc.lastJ (fun st => ∃ (u76 : List GTerm), out1 = .done u76 ∧ st = ⟨[(3, (.v (.slx), [(0, .ex 26 true (List.map GTerm.c u76))]))], [], []⟩) ?_ ?_
      · refine Wc.block ?_
        refine Wc.loop (fun m st => ∃ (u15 : List GTerm) (zc : Int), st = ⟨[tV 0 (.sl (List.map GTerm.c zb)), (3, (.v (.slx), [(0, .ex 26 true (List.map GTerm.c u15))])), tI 4 zc], [], []⟩ ∧ pspec_l34Terms_d_L1 k (pspec_l34Term_d k) (pspec_l34Terms_d k) zb m u15 zc = some out1) ?_ k ⟨_, _, rfl, h508⟩
        rintro m st ⟨u15, zc, rfl, h508⟩
        cases m with
        | zero => exact (onone h508).elim
        | succ m =>
          apply Wc.seq
          apply Wc.seq
          refine Wc.r2 [{}, {}, { v := some (aI (zb.length : Int)) }] ⟨[tV 0 (.sl (List.map GTerm.c zb)), (3, (.v (.slx), [(0, .ex 26 true (List.map GTerm.c u15))])), tI 4 zc, tB 9 (decide (zc < (zb.length : Int)))], [], []⟩ (.cons (len_obl GTerm.c zb) .nil) ?_
          rcases oif h508 with ⟨h509, h508⟩ | ⟨h509, h508⟩
          · refine Wc.cT h509 ?_
            refine Wc.fx [] ⟨[tV 0 (.sl (List.map GTerm.c zb)), (3, (.v (.slx), [(0, .ex 26 true (List.map GTerm.c u15))])), tI 4 zc], [], []⟩ ?_
            refine Wc.skip ?_
            apply Wc.seq
            refine Wc.block ?_
            obtain ⟨u9l, h510, h508⟩ := obind h508
            obtain ⟨u22, h511, h508⟩ := obind h508
            obtain ⟨h512, h508⟩ := oguard h508
            refine Wc.r2 [{ tk := [3] }, {}, {}, { v := some (.vptr (GTerm.q u9l)) }, {}, { r := some (.v (.agg (GTerm.qx u22)) (GTerm.h3_26t u22)) }, { c := some (List.map GTerm.c [u22]), tk := [17], md := 2 }, { c := some (List.map GTerm.c (u15 ++ [u22])), tk := [12, 18], md := 2 }, { tk := [19] }] ⟨[tV 0 (.sl (List.map GTerm.c zb)), (3, (.v (.slx), [(0, .ex 26 true (List.map GTerm.c (u15 ++ [u22])))])), tI 4 zc], [], []⟩ (.cons (at_obl (c := GTerm.c) (GTerm.c_eq u9l) GTerm.c_len h510) (.cons (len_ok 4 (GTerm.q u9l)) (.cons (ih_pspec_l34Term_d h511) (.cons (cl_cons (c := GTerm.c) (x := u22) (GTerm.c_eq u22) (cl_nil GTerm.c)) (.cons (app_re2 GTerm.c u15 [u22]) (.cons (app_obl2 (c := GTerm.c) (xs := u15) (ys := [u22]) GTerm.c_len h512) .nil)))))) ?_
            refine Wc.r0 ⟨[tV 0 (.sl (List.map GTerm.c zb)), (3, (.v (.slx), [(0, .ex 26 true (List.map GTerm.c (u15 ++ [u22])))])), tI 4 (wr.i64 (zc + 1))], [], []⟩ ?_
            exact ⟨_, Nat.lt_succ_self _, _, _, rfl, h508⟩
          · refine Wc.cF h509 ?_
            refine Wc.fx [] ⟨[(3, (.v (.slx), [(0, .ex 26 true (List.map GTerm.c u15))]))], [], []⟩ ?_
            refine Wc.exit ?_
            obtain rfl := Option.some.inj h508
            exact ⟨_, rfl, rfl⟩
      · rintro st ⟨u76, rfl, rfl⟩
        apply Wc.seq
        refine Wc.r1 [{ tk := [3] }, { tk := [20] }] ⟨[(2, (.v (.slx), [(0, .ex 26 true (List.map GTerm.c u76))]))], [], []⟩ ?_
        obtain rfl := Option.some.inj h; exact Wc.ret dn
theorem cspec_l34Terms_d {k : Nat} {zb : List GTerm} {r : (List GTerm)} (h : pspec_l34Terms_d k zb = some r) : FnO Try.prog 40 [.v (.sl (List.map GTerm.c zb)) []] (.v (.slx) [(0, .ex 26 true (List.map GTerm.c r))]) [] := (all_pspec_l34Term_d k).2 h

def pspec_l34Binds_d (k : Nat) (u9n : GBinds) : Option GBinds :=
  (pspec_l34Terms_d k u9n.gList).bind fun u9o =>
  some (GBinds.mk u9o)
theorem cspec_l34Binds_d {k : Nat} {u9n : GBinds} {r : GBinds} (h : pspec_l34Binds_d k u9n = some r) : FnO Try.prog 72 [.v (.agg [.sl (List.map GTerm.c u9n.gList)]) []] (.v (.agg [.slx]) (GUnifier.h0_26t r.gList)) [] := by
  refine FnO.o2 Try.func72 (rfl : Try.f72.body = some _) ?_
  intro w0 X0 Fin pv0 pb gt
  unfold pspec_l34Binds_d at h
  apply Wc.seq
  refine Wc.r0 ⟨[tP 1 1, tP 2 2], [bC 1 [.sl (List.map GTerm.c u9n.gList)], (2, .cells GBinds.z [(0, .app 26)])], []⟩ ?_
  apply Wc.seq
  obtain ⟨u9o, h503, h⟩ := obind h
  refine Wc.r2 [{}, {}, { r := some (.v (.slx) [(0, .ex 26 true (List.map GTerm.c u9o))]) }, {}, { tk := [5] }] ⟨[tP 1 1, tP 2 2], [(1, .cells [.slx] [(0, .ex 26 true (List.map GTerm.c u9o))]), (2, .cells GBinds.z [(0, .app 26)])], []⟩ (.cons (cspec_l34Terms_d h503) .nil) ?_
  apply Wc.seq
  refine Wc.r1 [{ md := 1 }, { tk := [7] }] ⟨[tP 2 2], [(2, .cells [.slx] [(0, .ex 26 true (List.map GTerm.c u9o))])], []⟩ ?_
  obtain rfl := Option.some.inj h; exact Wc.ret dn

def pspec_BindsNew_d_J1 (k : Nat) (u1k : Int) : Option GBinds :=
  if (decide (u1k > 5000)) = true then
    if 0 ≤ (5000 : Int) ∧ (5000 : Int) ≤ 1073741824 then
      some (GBinds.mk (List.replicate ((5000 : Int)).toNat (GTerm.mk 0 (bs []) 0 [])))
    else none
  else
    if 0 ≤ u1k ∧ u1k ≤ 1073741824 then
      some (GBinds.mk (List.replicate (u1k).toNat (GTerm.mk 0 (bs []) 0 [])))
    else none
def pspec_BindsNew_d (k : Nat) (u40 : Int) : Option GBinds :=
  if (decide (u40 < 0)) = true then
    pspec_BindsNew_d_J1 k 0
  else
    pspec_BindsNew_d_J1 k u40
theorem cspec_BindsNew_d {k : Nat} {u40 : Int} {r : GBinds} (h : pspec_BindsNew_d k u40 = some r) : FnO Try.prog 18 [.v (aI u40) []] (.v (.agg [.slx]) (GUnifier.h0_26t r.gList)) [] := by
  refine FnO.o2 Try.func18 (rfl : Try.f18.body = some _) ?_
  intro w0 X0 Fin pv0 pb gt
  unfold pspec_BindsNew_d at h
  apply Wc.seq
  refine Wc.r0 ⟨[tI 0 u40, tP 2 2], [(2, .cells GBinds.z [(0, .app 26)])], []⟩ ?_
  refine Wc.seqJ (fun st => ∃ (u1k : Int), st = ⟨[tI 0 u1k, tP 2 2], [(2, .cells [.slx] [(0, .ex 26 true (List.map GTerm.c []))])], []⟩ ∧ pspec_BindsNew_d_J1 k u1k = some r) ?_ ?_
  · apply Wc.seq
    refine Wc.r0 ⟨[tI 0 u40, tP 2 2, tB 4 (decide (u40 < 0))], [(2, .cells GBinds.z [(0, .app 26)])], []⟩ ?_
    rcases oif h with ⟨h508, h⟩ | ⟨h508, h⟩
    · refine Wc.cT h508 ?_
      refine Wc.r3 [] [.ow (.b 2 0) true] ⟨[tI 0 0, tP 2 2], [(2, .cells [.slx] [(0, .ex 26 true (List.map GTerm.c []))])], []⟩ .nil ?_
      exact ⟨_, rfl, h⟩
    · refine Wc.cF h508 ?_
      refine Wc.fx [.ow (.b 2 0) true] ⟨[tI 0 u40, tP 2 2], [(2, .cells [.slx] [(0, .ex 26 true (List.map GTerm.c []))])], []⟩ ?_
      refine Wc.skip ?_
      exact ⟨_, rfl, h⟩
  · rintro st ⟨u1k, rfl, h⟩
    apply Wc.seq
    apply Wc.seq
    refine Wc.r0 ⟨[tI 0 u1k, tP 2 2, tB 6 (decide (u1k > 5000))], [(2, .cells [.slx] [(0, .ex 26 true (List.map GTerm.c []))])], []⟩ ?_
    rcases oif h with ⟨h505, h⟩ | ⟨h505, h⟩
    · refine Wc.cT h505 ?_
      refine Wc.r0 ⟨[tI 0 5000, tP 2 2], [(2, .cells [.slx] [(0, .ex 26 true (List.map GTerm.c []))])], []⟩ ?_
      apply Wc.seq
      obtain ⟨h506, h⟩ := oguard h
      refine Wc.r2 [{}, { c := some (List.map GTerm.c (List.replicate ((5000 : Int)).toNat (GTerm.mk 0 (bs []) 0 []))) }, { tk := [8] }, { tk := [9] }] ⟨[tP 2 2], [(2, .cells [.slx] [(0, .ex 26 true (List.map GTerm.c (List.replicate ((5000 : Int)).toNat (GTerm.mk 0 (bs []) 0 []))))])], []⟩ (.cons (rep_re (c := GTerm.c) (z := (GTerm.mk 0 (bs []) 0 [])) (GTerm.c_eq (GTerm.mk 0 (bs []) 0 [])) ((5000 : Int)).toNat) (.cons (ms_obl h506) .nil)) ?_
      obtain rfl := Option.some.inj h; exact Wc.ret dn
    · refine Wc.cF h505 ?_
      refine Wc.fx [] ⟨[tI 0 u1k, tP 2 2], [(2, .cells [.slx] [(0, .ex 26 true (List.map GTerm.c []))])], []⟩ ?_
      refine Wc.skip ?_
      apply Wc.seq
      obtain ⟨h507, h⟩ := oguard h
      refine Wc.r2 [{}, { c := some (List.map GTerm.c (List.replicate (u1k).toNat (GTerm.mk 0 (bs []) 0 []))) }, { tk := [8] }, { tk := [9] }] ⟨[tP 2 2], [(2, .cells [.slx] [(0, .ex 26 true (List.map GTerm.c (List.replicate (u1k).toNat (GTerm.mk 0 (bs []) 0 []))))])], []⟩ (.cons (rep_re (c := GTerm.c) (z := (GTerm.mk 0 (bs []) 0 [])) (GTerm.c_eq (GTerm.mk 0 (bs []) 0 [])) (u1k).toNat) (.cons (ms_obl h507) .nil)) ?_
      obtain rfl := Option.some.inj h; exact Wc.ret dn

def pspec_Unify_d (k : Nat) (u9p : GBinds) (u9q : GTerm) (u9r : GTerm) : Option (GBinds × Bool) :=
  (pspec_l04UnifyRaw k u9p u9q u9r).bind fun u4h =>
  (pspec_l34Binds_d k u4h.1).bind fun uby =>
  some (uby, u4h.2)
theorem cspec_Unify_d {k : Nat} {u9p : GBinds} {u9q : GTerm} {u9r : GTerm} {r : GBinds × Bool} (h : pspec_Unify_d k u9p u9q u9r = some r) : FnO Try.prog 68 [.v (.agg [.sl (List.map GTerm.c u9p.gList)]) [], .v (.agg (GTerm.q u9q)) [], .v (.agg (GTerm.q u9r)) []] (.v (.tup [.agg [.slx], .bool r.2]) (GUnifier.h0_26t r.1.gList)) [] := by
  refine FnO.o2 Try.func68 (rfl : Try.f68.body = some _) ?_
  intro w0 X0 Fin pv0 pb gt
  unfold pspec_Unify_d at h
  apply Wc.seq
  refine Wc.r0 ⟨[tP 3 3, tP 4 4, tP 5 5, tP 6 6], [bC 3 [.sl (List.map GTerm.c u9p.gList)], bC 4 (GTerm.q u9q), bC 5 (GTerm.q u9r), (6, .cells GBinds.z [(0, .app 26)])], []⟩ ?_
  apply Wc.seq
  obtain ⟨u4h, h508, h⟩ := obind h
  refine Wc.r2 [{}, {}, {}, { r := some (.v (.tup [.agg [.sl (List.map GTerm.c u4h.1.gList)], .bool u4h.2]) []) }] ⟨[tP 6 6, tP 8 8, tB 9 u4h.2], [(6, .cells GBinds.z [(0, .app 26)]), bC 8 [.sl (List.map GTerm.c u4h.1.gList)]], []⟩ (.cons (cspec_l04UnifyRaw h508) .nil) ?_
  apply Wc.seq
  obtain ⟨uby, h509, h⟩ := obind h
  refine Wc.r2 [{}, { r := some (.v (.agg [.slx]) (GUnifier.h0_26t uby.gList)) }, {}, { tk := [18] }] ⟨[tP 6 6, tB 7 u4h.2], [(6, .cells [.slx] (GUnifier.h0_26t uby.gList))], []⟩ (.cons (cspec_l34Binds_d h509) .nil) ?_
  obtain rfl := Option.some.inj h; exact Wc.ret dn

def pspec_l04Binds_d_L1 (k : Nat) : Nat → Int → GBinds → GL01Cur → Option (Out (GL01Cur × GBinds) (GBinds × GL01Cur))
  | 0, _, _, _ => none
  | m + 1, zc, u3c, u9s =>
    (pspec_l01Below k u9s 4).bind fun u3d =>
    if (decide (zc < u3d.2)) = true then
      (pspec_l03Term k u3d.1).bind fun u4z =>
      (pspec_l03Term k u4z.1).bind fun u50 =>
      (pspec_Unify_d k u3c u4z.2 u50.2).bind fun u77 =>
      pspec_l04Binds_d_L1 k m (wr.i64 (zc + 1)) u77.1 u50.1
    else
      some (.done (u3c, u3d.1))
def pspec_l04Binds_d (k : Nat) (u4i : GL01Cur) : Option (GL01Cur × GBinds) :=
  (pspec_BindsNew_d k 4).bind fun u78 =>
  (pspec_l04Binds_d_L1 k k 0 u78 u4i).bind fun out1 => match out1 with
  | .ret r => some r
  | .done (u2i, u79) =>
    some (u79, u2i)
theorem cspec_l04Binds_d {k : Nat} {u4i : GL01Cur} {r : GL01Cur × GBinds} (h : pspec_l04Binds_d k u4i = some r) : FnO Try.prog 63 [.p (GL01Cur.q u4i) []] (.v (.agg [.slx]) (GUnifier.h0_26t r.2.gList)) [(0, .p (GL01Cur.q r.1) [])] := by
  refine FnO.o2 Try.func63 (rfl : Try.f63.body = some _) ?_
  intro w0 X0 Fin pv0 pb gt
  unfold pspec_l04Binds_d at h
  apply Wc.seq
  refine Wc.r0 ⟨[tP 0 1000000, tP 2 2], [(2, .cells GBinds.z [(0, .app 26)]), bC 1000000 (GL01Cur.q u4i)], []⟩ ?_
  apply Wc.seq
  obtain ⟨u78, h508, h⟩ := obind h
  refine Wc.r2 [{ r := some (.v (.agg [.slx]) (GUnifier.h0_26t u78.gList)) }, {}, { tk := [6] }] ⟨[tP 0 1000000, tP 2 2, tP 3 3], [(2, .cells GBinds.z [(0, .app 26)]), (3, .cells [.slx] (GUnifier.h0_26t u78.gList)), bC 1000000 (GL01Cur.q u4i)], []⟩ (.cons (cspec_BindsNew_d h508) .nil) ?_
  apply Wc.seq
  apply Wc.seq
  refine Wc.r0 ⟨[tP 0 1000000, tP 2 2, tP 3 3, tI 4 0], [(2, .cells GBinds.z [(0, .app 26)]), (3, .cells [.slx] (GUnifier.h0_26t u78.gList)), bC 1000000 (GL01Cur.q u4i)], []⟩ ?_
  obtain ⟨out1, h509, h⟩ := obind h
  refine Wc.lastJ (fun st => ∃ (u2i : GBinds) (u79 : GL01Cur), out1 = .done (u2i, u79) ∧ st = ⟨[tP 2 2, tP 3 3], [(2, .cells [.slx] [(0, .ex 26 true (List.map GTerm.c []))]), (3, .cells [.slx] (GUnifier.h0_26t u2i.gList)), bC 1000000 (GL01Cur.q u79)], []⟩) ?_ ?_
  · refine Wc.block ?_
    refine Wc.fx [.ow (.b 2 0) true] ⟨[tP 0 1000000, tP 2 2, tP 3 3, tI 4 0], [(2, .cells [.slx] [(0, .ex 26 true (List.map GTerm.c []))]), (3, .cells [.slx] (GUnifier.h0_26t u78.gList)), bC 1000000 (GL01Cur.q u4i)], []⟩ ?_
    refine Wc.loop (fun m st => ∃ (zc : Int) (u3c : GBinds) (u9s : GL01Cur), st = ⟨[tP 0 1000000, tP 2 2, tP 3 3, tI 4 zc], [(2, .cells [.slx] [(0, .ex 26 true (List.map GTerm.c []))]), (3, .cells [.slx] (GUnifier.h0_26t u3c.gList)), bC 1000000 (GL01Cur.q u9s)], []⟩ ∧ pspec_l04Binds_d_L1 k m zc u3c u9s = some out1) ?_ k ⟨_, _, _, rfl, h509⟩
    rintro m st ⟨zc, u3c, u9s, rfl, h509⟩
    cases m with
    | zero => exact (onone h509).elim
    | succ m =>
      apply Wc.seq
      apply Wc.seq
      obtain ⟨u3d, h510, h509⟩ := obind h509
      refine Wc.r2 [{}, {}, { r := some (.v (aI u3d.2) []), outs := [(0, .p (GL01Cur.q u3d.1) [])] }] ⟨[tP 0 1000000, tP 2 2, tP 3 3, tI 4 zc, tB 10 (decide (zc < u3d.2))], [(2, .cells [.slx] [(0, .ex 26 true (List.map GTerm.c []))]), (3, .cells [.slx] (GUnifier.h0_26t u3c.gList)), bC 1000000 (GL01Cur.q u3d.1)], []⟩ (.cons (cspec_l01Below h510) .nil) ?_
      rcases oif h509 with ⟨h511, h509⟩ | ⟨h511, h509⟩
      · refine Wc.cT h511 ?_
        refine Wc.fx [] ⟨[tP 0 1000000, tP 2 2, tP 3 3, tI 4 zc], [(2, .cells [.slx] [(0, .ex 26 true (List.map GTerm.c []))]), (3, .cells [.slx] (GUnifier.h0_26t u3c.gList)), bC 1000000 (GL01Cur.q u3d.1)], []⟩ ?_
        refine Wc.skip ?_
        apply Wc.seq
        refine Wc.block ?_
        apply Wc.seq
        obtain ⟨u4z, h512, h509⟩ := obind h509
        refine Wc.r2 [{}, { r := some (.v (.agg (GTerm.q u4z.2)) [(3, .app 26)]), outs := [(0, .p (GL01Cur.q u4z.1) [])] }, {}, { tk := [14] }] ⟨[tP 0 1000000, tP 2 2, tP 3 3, tI 4 zc, tP 5 5], [(2, .cells [.slx] [(0, .ex 26 true (List.map GTerm.c []))]), (3, .cells [.slx] (GUnifier.h0_26t u3c.gList)), (5, .cells (GTerm.q u4z.2) [(3, .app 26)]), bC 1000000 (GL01Cur.q u4z.1)], []⟩ (.cons (cspec_l03Term h512) .nil) ?_
        obtain ⟨u50, h513, h509⟩ := obind h509
        obtain ⟨u77, h514, h509⟩ := obind h509
        refine Wc.every hmix [{}, {}, {}, { r := some (.v (.agg (GTerm.q u50.2)) [(3, .app 26)]), outs := [(0, .p (GL01Cur.q u50.1) [])] }, { r := some (.v (.tup [.agg [.slx], .bool u77.2]) (GUnifier.h0_26t u77.1.gList)) }, { tk := [20] }, { tk := [15] }, {}, { tk := [21] }] [] [0, 2, 3, 4] [2, 3, 1000000] [] ⟨[tP 0 1000000, tP 2 2, tP 3 3, tI 4 zc], [(2, .cells [.slx] [(0, .ex 26 true (List.map GTerm.c []))]), (3, .cells [.slx] (GUnifier.h0_26t u77.1.gList)), bC 1000000 (GL01Cur.q u50.1)], []⟩ _ 36 (by kernel_rfl) (.cons .nil (.cons .nil (.cons .nil (.cons (.cons (cspec_l03Term h513) .nil) (.cons (.cons (cspec_Unify_d h514) .nil) (.cons .nil (.cons .nil (.cons .nil (.cons .nil .nil))))))))) ?_
        refine Wc.r0 ⟨[tP 0 1000000, tP 2 2, tP 3 3, tI 4 (wr.i64 (zc + 1))], [(2, .cells [.slx] [(0, .ex 26 true (List.map GTerm.c []))]), (3, .cells [.slx] (GUnifier.h0_26t u77.1.gList)), bC 1000000 (GL01Cur.q u50.1)], []⟩ ?_
        exact ⟨_, Nat.lt_succ_self _, _, _, _, rfl, h509⟩
      · refine Wc.cF h511 ?_
        refine Wc.fx [] ⟨[tP 2 2, tP 3 3], [(2, .cells [.slx] [(0, .ex 26 true (List.map GTerm.c []))]), (3, .cells [.slx] (GUnifier.h0_26t u3c.gList)), bC 1000000 (GL01Cur.q u3d.1)], []⟩ ?_
        refine Wc.exit ?_
        obtain rfl := Option.some.inj h509
        exact ⟨_, _, rfl, rfl⟩
  · rintro st ⟨u2i, u79, rfl, rfl⟩
    apply Wc.seq
    refine Wc.r1 [{ md := 1 }, { tk := [23] }] ⟨[tP 2 2], [(2, .cells [.slx] (GUnifier.h0_26t u2i.gList)), bC 1000000 (GL01Cur.q u79)], []⟩ ?_
    obtain rfl := Option.some.inj h; exact Wc.ret dn

def pspec_l03Var_d (k : Nat) (u51 : Int) : Option GTerm :=
  some (GTerm.mk 1 (bs []) u51 [])
theorem cspec_l03Var_d {k : Nat} {u51 : Int} {r : GTerm} (h : pspec_l03Var_d k u51 = some r) : FnO Try.prog 54 [.v (aI u51) []] (.v (.agg (GTerm.qx r)) (GTerm.h3_26t r)) [] := by
  refine FnO.o2 Try.func54 (rfl : Try.f54.body = some _) ?_
  intro w0 X0 Fin pv0 pb gt
  unfold pspec_l03Var_d at h
  apply Wc.seq
  refine Wc.r0 ⟨[tI 0 u51, tP 2 2], [(2, .cells GTerm.z [(3, .app 26)])], []⟩ ?_
  apply Wc.seq
  refine Wc.r1 [{}, {}, { tk := [4] }] ⟨[tP 2 2], [(2, .cells [aI 1, .str (bs []), aI u51, .sl (List.map GTerm.c [])] [(3, .app 26)])], []⟩ ?_
  refine Wc.fx [.ow (.b 2 3) true] ⟨[tP 2 2], [(2, .cells [aI 1, .str (bs []), aI u51, .slx] [(3, .ex 26 true (List.map GTerm.c []))])], []⟩ ?_
  obtain rfl := Option.some.inj h; exact Wc.ret dn

def pspec_l03Atom_d (k : Nat) (u52 : ByteArray) : Option GTerm :=
  some (GTerm.mk 2 u52 0 [])
theorem cspec_l03Atom_d {k : Nat} {u52 : ByteArray} {r : GTerm} (h : pspec_l03Atom_d k u52 = some r) : FnO Try.prog 37 [.v (.str u52) []] (.v (.agg (GTerm.qx r)) (GTerm.h3_26t r)) [] := by
  refine FnO.o2 Try.func37 (rfl : Try.f37.body = some _) ?_
  intro w0 X0 Fin pv0 pb gt
  unfold pspec_l03Atom_d at h
  apply Wc.seq
  refine Wc.r0 ⟨[tS 0 u52, tP 2 2], [(2, .cells GTerm.z [(3, .app 26)])], []⟩ ?_
  apply Wc.seq
  refine Wc.r1 [{}, {}, { tk := [4] }] ⟨[tP 2 2], [(2, .cells [aI 2, .str u52, aI 0, .sl (List.map GTerm.c [])] [(3, .app 26)])], []⟩ ?_
  refine Wc.fx [.ow (.b 2 3) true] ⟨[tP 2 2], [(2, .cells [aI 2, .str u52, aI 0, .slx] [(3, .ex 26 true (List.map GTerm.c []))])], []⟩ ?_
  obtain rfl := Option.some.inj h; exact Wc.ret dn

def pspec_l03Num_d (k : Nat) (u53 : Int) : Option GTerm :=
  some (GTerm.mk 3 (bs []) u53 [])
theorem cspec_l03Num_d {k : Nat} {u53 : Int} {r : GTerm} (h : pspec_l03Num_d k u53 = some r) : FnO Try.prog 56 [.v (aI u53) []] (.v (.agg (GTerm.qx r)) (GTerm.h3_26t r)) [] := by
  refine FnO.o2 Try.func56 (rfl : Try.f56.body = some _) ?_
  intro w0 X0 Fin pv0 pb gt
  unfold pspec_l03Num_d at h
  apply Wc.seq
  refine Wc.r0 ⟨[tI 0 u53, tP 2 2], [(2, .cells GTerm.z [(3, .app 26)])], []⟩ ?_
  apply Wc.seq
  refine Wc.r1 [{}, {}, { tk := [4] }] ⟨[tP 2 2], [(2, .cells [aI 3, .str (bs []), aI u53, .sl (List.map GTerm.c [])] [(3, .app 26)])], []⟩ ?_
  refine Wc.fx [.ow (.b 2 3) true] ⟨[tP 2 2], [(2, .cells [aI 3, .str (bs []), aI u53, .slx] [(3, .ex 26 true (List.map GTerm.c []))])], []⟩ ?_
  obtain rfl := Option.some.inj h; exact Wc.ret dn

def pspec_l03Two_d (k : Nat) (u7a : ByteArray) (u2s : GTerm) (u0f : GTerm) : Option GTerm :=
  some (GTerm.mk 4 u7a 0 [u2s, u0f])
theorem cspec_l03Two_d {k : Nat} {u7a : ByteArray} {u2s : GTerm} {u0f : GTerm} {r : GTerm} (h : pspec_l03Two_d k u7a u2s u0f = some r) : FnO Try.prog 57 [.v (.str u7a) [], .v (.agg (GTerm.qx u2s)) (GTerm.h3_26t u2s), .v (.agg (GTerm.qx u0f)) (GTerm.h3_26t u0f)] (.v (.agg (GTerm.qx r)) (GTerm.h3_26t r)) [] := by
  refine FnO.o2 Try.func57 (rfl : Try.f57.body = some _) ?_
  intro w0 X0 Fin pv0 pb gt
  unfold pspec_l03Two_d at h
  apply Wc.seq
  refine Wc.r1 [{ tk := [1] }, { tk := [2] }] ⟨[tS 0 u7a, tP 4 4, tP 5 5, tP 6 6], [(4, .cells (GTerm.qx u2s) (GTerm.h3_26t u2s)), (5, .cells (GTerm.qx u0f) (GTerm.h3_26t u0f)), (6, .cells GTerm.z [(3, .app 26)])], []⟩ ?_
  apply Wc.seq
  refine Wc.r2 [{}, { md := 1 }, { md := 1 }, { c := some (List.map GTerm.c [u2s, u0f]), tk := [8, 9], md := 2 }, { tk := [10] }, { tk := [11] }] ⟨[tP 6 6], [(6, .cells [aI 4, .str u7a, aI 0, .slx] [(3, .ex 26 true (List.map GTerm.c [u2s, u0f]))])], []⟩ (.cons (cl_cons (c := GTerm.c) (x := u2s) (GTerm.c_eq u2s) (cl_cons (c := GTerm.c) (x := u0f) (GTerm.c_eq u0f) (cl_nil GTerm.c))) .nil) ?_
  obtain rfl := Option.some.inj h; exact Wc.ret dn

def pspec_l03Made_d_L2 (k : Nat) (rspec_l03Made_d : GL01Cur → Int → Option (GL01Cur × GTerm)) (un : Int) : Nat → Int → GTerm → GL01Cur → Option (Out (GL01Cur × GTerm) (GTerm × GL01Cur))
  | 0, _, _, _ => none
  | m + 1, u17, v0, u9t =>
    (pspec_l01Below k u9t 3).bind fun u1l =>
    if (decide (u17 < (wr.i64 (1 + u1l.2)))) = true then
      if (decide ((v0.gKids.length : Int) < 5)) = true then
        (rspec_l03Made_d u1l.1 (wr.i64 (un - 1))).bind fun u0g =>
        if v0.gKids.length + [u0g.2].length ≤ 1073741824 then
          pspec_l03Made_d_L2 k rspec_l03Made_d un m (wr.i64 (u17 + 1)) (GTerm.mk v0.gKind v0.gName v0.gNum (v0.gKids ++ [u0g.2])) u0g.1
        else none
      else
        pspec_l03Made_d_L2 k rspec_l03Made_d un m (wr.i64 (u17 + 1)) v0 u1l.1
    else
      some (.done (v0, u1l.1))
def pspec_l03Made_d_J1 (k : Nat) (rspec_l03Made_d : GL01Cur → Int → Option (GL01Cur × GTerm)) (vn : GL01Cur × Int) (un : Int) (u03 : Int) : Option (GL01Cur × GTerm) :=
  if (decide (u03 < 2)) = true then
    (pspec_l01Below k vn.1 4).bind fun u7b =>
    (pspec_l03Var_d k u7b.2).bind fun u2t =>
    some (u7b.1, u2t)
  else
    if (decide (u03 < 4)) = true then
      if 0 ≤ (0 : Int) ∧ (0 : Int) ≤ 1 ∧ 1 ≤ ((bs [120, 32, 121]).size : Int) then
        (pspec_l01Pick k vn.1 [(bs [97]), (bs [98]), (bs [91, 93]), (bs [43]), (bs [66, 105, 103]), (bs [120, 32, 121]).extract ((0 : Int) : Int).toNat (1 : Int).toNat, (bs [58, 45]), (bs [61, 46, 46])]).bind fun u7c =>
        (pspec_l03Atom_d k u7c.2).bind fun u7d =>
        some (u7c.1, u7d)
      else none
    else
      if (decide (u03 < 6)) = true then
        (pspec_l01PickInt k vn.1 [0, 1, -7, 999999999]).bind fun u7e =>
        (pspec_l03Num_d k u7e.2).bind fun u7f =>
        some (u7e.1, u7f)
      else
        if (u03 == 6) = true then
          (rspec_l03Made_d vn.1 (wr.i64 (un - 1))).bind fun u7g =>
          (rspec_l03Made_d u7g.1 (wr.i64 (un - 1))).bind fun u54 =>
          (pspec_l03Two_d k (bs [46]) u7g.2 u54.2).bind fun u2u =>
          some (u54.1, u2u)
        else
          if (u03 == 7) = true then
            (pspec_l01Pick k vn.1 [(bs [43]), (bs [61]), (bs [44]), (bs [102]), (bs [59])]).bind fun u9u =>
            (rspec_l03Made_d u9u.1 (wr.i64 (un - 1))).bind fun u7h =>
            (rspec_l03Made_d u7h.1 (wr.i64 (un - 1))).bind fun u55 =>
            (pspec_l03Two_d k u9u.2 u7h.2 u55.2).bind fun u7i =>
            some (u55.1, u7i)
          else
            (pspec_l01Pick k vn.1 [(bs [102]), (bs [103]), (bs [45]), (bs [91, 93])]).bind fun u2v =>
            (pspec_l03Made_d_L2 k rspec_l03Made_d un k 0 (GTerm.mk 4 u2v.2 0 []) u2v.1).bind fun out2 => match out2 with
            | .ret r => some r
            | .done (u4j, u7j) =>
              some (u7j, u4j)
mutual
def pspec_l03Made_d : Nat → GL01Cur → Int → Option (GL01Cur × GTerm)
  | 0, _, _ => none
  | k + 1, u3e, un =>
    (pspec_l01Below k u3e 10).bind fun vn =>
    if (decide (un ≤ 0)) = true then
      if (6 : Int) ≠ 0 then
        pspec_l03Made_d_J1 k (pspec_l03Made_d k) vn un (Int.tmod vn.2 6)
      else none
    else
      pspec_l03Made_d_J1 k (pspec_l03Made_d k) vn un vn.2
end
set_option maxHeartbeats 4000000 in
theorem all_pspec_l03Made_d : ∀ k : Nat, (∀ {u3e : GL01Cur} {un : Int} {r : GL01Cur × GTerm}, pspec_l03Made_d k u3e un = some r → FnO Try.prog 35 [.p (GL01Cur.q u3e) [], .v (aI un) []] (.v (.agg (GTerm.qx r.2)) (GTerm.h3_26t r.2)) [(0, .p (GL01Cur.q r.1) [])]) := by
  intro k
  induction k with
  | zero =>
    · intro u3e un r h
      exact (onone (by rw [pspec_l03Made_d] at h; exact h)).elim
  | succ k ih =>
    have ih_pspec_l03Made_d := @ih
    · intro u3e un r h
      rw [pspec_l03Made_d] at h
      refine FnO.o2 Try.func35 (rfl : Try.f35.body = some _) ?_
      intro w0 X0 Fin pv0 pb gt
      apply Wc.seq
      refine Wc.r0 ⟨[tP 0 1000000, tI 1 un, tP 4 4], [(4, .cells GTerm.z [(3, .app 26)]), bC 1000000 (GL01Cur.q u3e)], []⟩ ?_
      apply Wc.seq
      obtain ⟨vn, h539, h⟩ := obind h
      refine Wc.r2 [{}, { r := some (.v (aI vn.2) []), outs := [(0, .p (GL01Cur.q vn.1) [])] }] ⟨[tP 0 1000000, tI 1 un, tP 4 4, tI 5 vn.2], [(4, .cells GTerm.z [(3, .app 26)]), bC 1000000 (GL01Cur.q vn.1)], []⟩ (.cons (cspec_l01Below h539) .nil) ?_
      refine Wc.seqJ (fun st => ∃ (u03 : Int), st = ⟨[tP 0 1000000, tI 1 un, tP 4 4, tI 5 u03], [(4, .cells [aI 0, .str (bs []), aI 0, .slx] [(3, .ex 26 true (List.map GTerm.c []))]), bC 1000000 (GL01Cur.q vn.1)], []⟩ ∧ pspec_l03Made_d_J1 k (pspec_l03Made_d k) vn un u03 = some r) ?_ ?_
      · apply Wc.seq
        refine Wc.r0 ⟨[tP 0 1000000, tI 1 un, tP 4 4, tI 5 vn.2, tB 11 (decide (un ≤ 0))], [(4, .cells GTerm.z [(3, .app 26)]), bC 1000000 (GL01Cur.q vn.1)], []⟩ ?_
        rcases oif h with ⟨h566, h⟩ | ⟨h566, h⟩
        · refine Wc.cT h566 ?_
          obtain ⟨h567, h⟩ := oguard h
          refine Wc.r3 [] [.ow (.b 4 3) true] ⟨[tP 0 1000000, tI 1 un, tP 4 4, tI 5 (Int.tmod vn.2 6)], [(4, .cells [aI 0, .str (bs []), aI 0, .slx] [(3, .ex 26 true (List.map GTerm.c []))]), bC 1000000 (GL01Cur.q vn.1)], []⟩ (.cons h567 .nil) ?_
          exact ⟨_, rfl, h⟩
        · refine Wc.cF h566 ?_
          refine Wc.fx [.ow (.b 4 3) true] ⟨[tP 0 1000000, tI 1 un, tP 4 4, tI 5 vn.2], [(4, .cells [aI 0, .str (bs []), aI 0, .slx] [(3, .ex 26 true (List.map GTerm.c []))]), bC 1000000 (GL01Cur.q vn.1)], []⟩ ?_
          refine Wc.skip ?_
          exact ⟨_, rfl, h⟩
      · rintro st ⟨u03, rfl, h⟩
        apply Wc.seq
        refine Wc.block ?_
        apply Wc.seq
        refine Wc.r0 ⟨[tP 0 1000000, tI 1 un, tP 4 4, tI 5 u03, tB 14 (decide (u03 < 2))], [(4, .cells [aI 0, .str (bs []), aI 0, .slx] [(3, .ex 26 true (List.map GTerm.c []))]), bC 1000000 (GL01Cur.q vn.1)], []⟩ ?_
        rcases oif h with ⟨h540, h⟩ | ⟨h540, h⟩
        · refine Wc.cT h540 ?_
          apply Wc.seq
          obtain ⟨u7b, h541, h⟩ := obind h
          obtain ⟨u2t, h542, h⟩ := obind h
          refine Wc.r2 [{}, { r := some (.v (aI u7b.2) []), outs := [(0, .p (GL01Cur.q u7b.1) [])] }, { r := some (.v (.agg (GTerm.qx u2t)) (GTerm.h3_26t u2t)) }, { tk := [19] }] ⟨[tP 4 4], [(4, .cells (GTerm.qx u2t) (GTerm.h3_26t u2t)), bC 1000000 (GL01Cur.q u7b.1)], []⟩ (.cons (cspec_l01Below h541) (.cons (cspec_l03Var_d h542) .nil)) ?_
          obtain rfl := Option.some.inj h; exact Wc.ret dn
        · refine Wc.cF h540 ?_
          apply Wc.seq
          refine Wc.r0 ⟨[tP 0 1000000, tI 1 un, tP 4 4, tI 5 u03, tB 20 (decide (u03 < 4))], [(4, .cells [aI 0, .str (bs []), aI 0, .slx] [(3, .ex 26 true (List.map GTerm.c []))]), bC 1000000 (GL01Cur.q vn.1)], []⟩ ?_
          rcases oif h with ⟨h543, h⟩ | ⟨h543, h⟩
          · refine Wc.cT h543 ?_
            apply Wc.seq
            obtain ⟨h544, h⟩ := oguard h
            obtain ⟨u7c, h545, h⟩ := obind h
            obtain ⟨u7d, h546, h⟩ := obind h
            refine Wc.r2 [{}, {}, { c := some (List.map cS [(bs [97]), (bs [98]), (bs [91, 93]), (bs [43]), (bs [66, 105, 103]), (bs [120, 32, 121]).extract ((0 : Int) : Int).toNat (1 : Int).toNat, (bs [58, 45]), (bs [61, 46, 46])]) }, { r := some (.v (.str u7c.2) []), outs := [(0, .p (GL01Cur.q u7c.1) [])] }, { r := some (.v (.agg (GTerm.qx u7d)) (GTerm.h3_26t u7d)) }, { tk := [27] }] ⟨[tP 4 4], [(4, .cells (GTerm.qx u7d) (GTerm.h3_26t u7d)), bC 1000000 (GL01Cur.q u7c.1)], []⟩ (.cons h544 (.cons (cl_cons (c := cS) (x := (bs [97])) rfl (cl_cons (c := cS) (x := (bs [98])) rfl (cl_cons (c := cS) (x := (bs [91, 93])) rfl (cl_cons (c := cS) (x := (bs [43])) rfl (cl_cons (c := cS) (x := (bs [66, 105, 103])) rfl (cl_cons (c := cS) (x := (bs [120, 32, 121]).extract ((0 : Int) : Int).toNat (1 : Int).toNat) rfl (cl_cons (c := cS) (x := (bs [58, 45])) rfl (cl_cons (c := cS) (x := (bs [61, 46, 46])) rfl (cl_nil cS))))))))) (.cons (cspec_l01Pick h545) (.cons (cspec_l03Atom_d h546) .nil)))) ?_
            obtain rfl := Option.some.inj h; exact Wc.ret dn
          · refine Wc.cF h543 ?_
            apply Wc.seq
            refine Wc.r0 ⟨[tP 0 1000000, tI 1 un, tP 4 4, tI 5 u03, tB 28 (decide (u03 < 6))], [(4, .cells [aI 0, .str (bs []), aI 0, .slx] [(3, .ex 26 true (List.map GTerm.c []))]), bC 1000000 (GL01Cur.q vn.1)], []⟩ ?_
            rcases oif h with ⟨h547, h⟩ | ⟨h547, h⟩
            · refine Wc.cT h547 ?_
              apply Wc.seq
              obtain ⟨u7e, h548, h⟩ := obind h
              obtain ⟨u7f, h549, h⟩ := obind h
              refine Wc.r2 [{}, { c := some (List.map cI.i64 [0, 1, -7, 999999999]) }, { r := some (.v (aI u7e.2) []), outs := [(0, .p (GL01Cur.q u7e.1) [])] }, { r := some (.v (.agg (GTerm.qx u7f)) (GTerm.h3_26t u7f)) }, { tk := [34] }] ⟨[tP 4 4], [(4, .cells (GTerm.qx u7f) (GTerm.h3_26t u7f)), bC 1000000 (GL01Cur.q u7e.1)], []⟩ (.cons (cl_cons (c := cI.i64) (x := 0) rfl (cl_cons (c := cI.i64) (x := 1) rfl (cl_cons (c := cI.i64) (x := -7) rfl (cl_cons (c := cI.i64) (x := 999999999) rfl (cl_nil cI.i64))))) (.cons (cspec_l01PickInt h548) (.cons (cspec_l03Num_d h549) .nil))) ?_
              obtain rfl := Option.some.inj h; exact Wc.ret dn
            · refine Wc.cF h547 ?_
              apply Wc.seq
              refine Wc.r0 ⟨[tP 0 1000000, tI 1 un, tP 4 4, tI 5 u03, tB 35 (u03 == 6)], [(4, .cells [aI 0, .str (bs []), aI 0, .slx] [(3, .ex 26 true (List.map GTerm.c []))]), bC 1000000 (GL01Cur.q vn.1)], []⟩ ?_
              rcases oif h with ⟨h550, h⟩ | ⟨h550, h⟩
              · refine Wc.cT h550 ?_
                apply Wc.seq
                obtain ⟨u7g, h551, h⟩ := obind h
                obtain ⟨u54, h552, h⟩ := obind h
                obtain ⟨u2u, h553, h⟩ := obind h
                refine Wc.r2 [{}, {}, {}, { r := some (.v (.agg (GTerm.qx u7g.2)) (GTerm.h3_26t u7g.2)), outs := [(0, .p (GL01Cur.q u7g.1) [])] }, {}, {}, {}, { r := some (.v (.agg (GTerm.qx u54.2)) (GTerm.h3_26t u54.2)), outs := [(0, .p (GL01Cur.q u54.1) [])] }, { tk := [41, 45], r := some (.v (.agg (GTerm.qx u2u)) (GTerm.h3_26t u2u)) }, { tk := [46] }] ⟨[tP 4 4], [(4, .cells (GTerm.qx u2u) (GTerm.h3_26t u2u)), bC 1000000 (GL01Cur.q u54.1)], []⟩ (.cons (ih_pspec_l03Made_d h551) (.cons (ih_pspec_l03Made_d h552) (.cons (cspec_l03Two_d h553) .nil))) ?_
                obtain rfl := Option.some.inj h; exact Wc.ret dn
              · refine Wc.cF h550 ?_
                apply Wc.seq
                refine Wc.r0 ⟨[tP 0 1000000, tI 1 un, tP 4 4, tB 47 (u03 == 7)], [(4, .cells [aI 0, .str (bs []), aI 0, .slx] [(3, .ex 26 true (List.map GTerm.c []))]), bC 1000000 (GL01Cur.q vn.1)], []⟩ ?_
                rcases oif h with ⟨h554, h⟩ | ⟨h554, h⟩
                · refine Wc.cT h554 ?_
                  apply Wc.seq
                  obtain ⟨u9u, h555, h⟩ := obind h
                  obtain ⟨u7h, h556, h⟩ := obind h
                  obtain ⟨u55, h557, h⟩ := obind h
                  obtain ⟨u7i, h558, h⟩ := obind h
                  refine Wc.r2 [{}, { c := some (List.map cS [(bs [43]), (bs [61]), (bs [44]), (bs [102]), (bs [59])]) }, { r := some (.v (.str u9u.2) []), outs := [(0, .p (GL01Cur.q u9u.1) [])] }, {}, {}, {}, { r := some (.v (.agg (GTerm.qx u7h.2)) (GTerm.h3_26t u7h.2)), outs := [(0, .p (GL01Cur.q u7h.1) [])] }, {}, {}, {}, { r := some (.v (.agg (GTerm.qx u55.2)) (GTerm.h3_26t u55.2)), outs := [(0, .p (GL01Cur.q u55.1) [])] }, { tk := [56, 60], r := some (.v (.agg (GTerm.qx u7i)) (GTerm.h3_26t u7i)) }, { tk := [61] }] ⟨[tP 4 4], [(4, .cells (GTerm.qx u7i) (GTerm.h3_26t u7i)), bC 1000000 (GL01Cur.q u55.1)], []⟩ (.cons (cl_cons (c := cS) (x := (bs [43])) rfl (cl_cons (c := cS) (x := (bs [61])) rfl (cl_cons (c := cS) (x := (bs [44])) rfl (cl_cons (c := cS) (x := (bs [102])) rfl (cl_cons (c := cS) (x := (bs [59])) rfl (cl_nil cS)))))) (.cons (cspec_l01Pick h555) (.cons (ih_pspec_l03Made_d h556) (.cons (ih_pspec_l03Made_d h557) (.cons (cspec_l03Two_d h558) .nil))))) ?_
                  obtain rfl := Option.some.inj h; exact Wc.ret dn
                · refine Wc.cF h554 ?_
                  refine Wc.fx [] ⟨[tP 0 1000000, tI 1 un, tP 4 4], [(4, .cells [aI 0, .str (bs []), aI 0, .slx] [(3, .ex 26 true (List.map GTerm.c []))]), bC 1000000 (GL01Cur.q vn.1)], []⟩ ?_
                  refine Wc.skip ?_
                  apply Wc.seq
                  obtain ⟨u2v, h559, h⟩ := obind h
                  refine Wc.r2 [{}, { c := some (List.map cS [(bs [102]), (bs [103]), (bs [45]), (bs [91, 93])]) }, { r := some (.v (.str u2v.2) []), outs := [(0, .p (GL01Cur.q u2v.1) [])] }, {}, {}, { tk := [65] }] ⟨[tP 0 1000000, tI 1 un, tP 4 4, tP 6 6], [(4, .cells [aI 0, .str (bs []), aI 0, .slx] [(3, .ex 26 true (List.map GTerm.c []))]), (6, .cells [aI 4, .str u2v.2, aI 0, .sl (List.map GTerm.c [])] [(3, .app 26)]), bC 1000000 (GL01Cur.q u2v.1)], []⟩ (.cons (cl_cons (c := cS) (x := (bs [102])) rfl (cl_cons (c := cS) (x := (bs [103])) rfl (cl_cons (c := cS) (x := (bs [45])) rfl (cl_cons (c := cS) (x := (bs [91, 93])) rfl (cl_nil cS))))) (.cons (cspec_l01Pick h559) .nil)) ?_
                  apply Wc.seq
                  apply Wc.seq
                  refine Wc.r0 ⟨[tP 0 1000000, tI 1 un, tP 4 4, tP 6 6, tI 7 0], [(4, .cells [aI 0, .str (bs []), aI 0, .slx] [(3, .ex 26 true (List.map GTerm.c []))]), (6, .cells [aI 4, .str u2v.2, aI 0, .sl (List.map GTerm.c [])] [(3, .app 26)]), bC 1000000 (GL01Cur.q u2v.1)], []⟩ ?_
                  obtain ⟨out2, h560, h⟩ := obind h
                  refine Wc.lastJ (fun st => ∃ (u4j : GTerm) (u7j : GL01Cur), out2 = .done (u4j, u7j) ∧ st = ⟨[tP 4 4, tP 6 6], [(4, .cells [aI 0, .str (bs []), aI 0, .slx] [(3, .ex 26 true (List.map GTerm.c []))]), (6, .cells (GTerm.qx u4j) (GTerm.h3_26t u4j)), bC 1000000 (GL01Cur.q u7j)], []⟩) ?_ ?_
                  · refine Wc.block ?_
                    refine Wc.fx [.ow (.b 6 3) true] ⟨[tP 0 1000000, tI 1 un, tP 4 4, tP 6 6, tI 7 0], [(4, .cells [aI 0, .str (bs []), aI 0, .slx] [(3, .ex 26 true (List.map GTerm.c []))]), (6, .cells [aI 4, .str u2v.2, aI 0, .slx] [(3, .ex 26 true (List.map GTerm.c []))]), bC 1000000 (GL01Cur.q u2v.1)], []⟩ ?_
                    refine Wc.loop (fun m st => ∃ (u17 : Int) (v0 : GTerm) (u9t : GL01Cur), st = ⟨[tP 0 1000000, tI 1 un, tP 4 4, tP 6 6, tI 7 u17], [(4, .cells [aI 0, .str (bs []), aI 0, .slx] [(3, .ex 26 true (List.map GTerm.c []))]), (6, .cells (GTerm.qx v0) (GTerm.h3_26t v0)), bC 1000000 (GL01Cur.q u9t)], []⟩ ∧ pspec_l03Made_d_L2 k (pspec_l03Made_d k) un m u17 v0 u9t = some out2) ?_ k ⟨_, _, _, rfl, h560⟩
                    rintro m st ⟨u17, v0, u9t, rfl, h560⟩
                    cases m with
                    | zero => exact (onone h560).elim
                    | succ m =>
                      apply Wc.seq
                      apply Wc.seq
                      obtain ⟨u1l, h561, h560⟩ := obind h560
                      refine Wc.r2 [{}, {}, { r := some (.v (aI u1l.2) []), outs := [(0, .p (GL01Cur.q u1l.1) [])] }] ⟨[tP 0 1000000, tI 1 un, tP 4 4, tP 6 6, tI 7 u17, tB 70 (decide (u17 < (wr.i64 (1 + u1l.2))))], [(4, .cells [aI 0, .str (bs []), aI 0, .slx] [(3, .ex 26 true (List.map GTerm.c []))]), (6, .cells (GTerm.qx v0) (GTerm.h3_26t v0)), bC 1000000 (GL01Cur.q u1l.1)], []⟩ (.cons (cspec_l01Below h561) .nil) ?_
                      rcases oif h560 with ⟨h562, h560⟩ | ⟨h562, h560⟩
                      · refine Wc.cT h562 ?_
                        refine Wc.fx [] ⟨[tP 0 1000000, tI 1 un, tP 4 4, tP 6 6, tI 7 u17], [(4, .cells [aI 0, .str (bs []), aI 0, .slx] [(3, .ex 26 true (List.map GTerm.c []))]), (6, .cells (GTerm.qx v0) (GTerm.h3_26t v0)), bC 1000000 (GL01Cur.q u1l.1)], []⟩ ?_
                        refine Wc.skip ?_
                        apply Wc.seq
                        refine Wc.block ?_
                        apply Wc.seq
                        refine Wc.r2 [{}, {}, { v := some (aI (v0.gKids.length : Int)) }] ⟨[tP 0 1000000, tI 1 un, tP 4 4, tP 6 6, tI 7 u17, tB 76 (decide ((v0.gKids.length : Int) < 5))], [(4, .cells [aI 0, .str (bs []), aI 0, .slx] [(3, .ex 26 true (List.map GTerm.c []))]), (6, .cells (GTerm.qx v0) (GTerm.h3_26t v0)), bC 1000000 (GL01Cur.q u1l.1)], []⟩ (.cons (len_obl GTerm.c v0.gKids) .nil) ?_
                        rcases oif h560 with ⟨h563, h560⟩ | ⟨h563, h560⟩
                        · refine Wc.cT h563 ?_
                          obtain ⟨u0g, h564, h560⟩ := obind h560
                          obtain ⟨h565, h560⟩ := oguard h560
                          refine Wc.draw hmix [{}, { md := 1 }, {}, {}, {}, { r := some (.v (.agg (GTerm.qx u0g.2)) (GTerm.h3_26t u0g.2)), outs := [(0, .p (GL01Cur.q u0g.1) [])] }, { c := some (List.map GTerm.c [u0g.2]), tk := [82], md := 2 }, { c := some (List.map GTerm.c (v0.gKids ++ [u0g.2])), tk := [78, 83], md := 2 }, {}, { tk := [84] }] [] [0, 1, 4, 6, 7] [4, 6, 1000000] [] ⟨[tP 0 1000000, tI 1 un, tP 4 4, tP 6 6, tI 7 u17], [(4, .cells [aI 0, .str (bs []), aI 0, .slx] [(3, .ex 26 true (List.map GTerm.c []))]), (6, .cells (GTerm.qx v0) [(3, .ex 26 true (List.map GTerm.c (v0.gKids ++ [u0g.2])))]), bC 1000000 (GL01Cur.q u0g.1)], []⟩ _ (by kernel_rfl) (fun X => by kernel_rfl) (.cons (ih_pspec_l03Made_d h564) (.cons (cl_cons (c := GTerm.c) (x := u0g.2) (GTerm.c_eq u0g.2) (cl_nil GTerm.c)) (.cons (app_re2 GTerm.c v0.gKids [u0g.2]) (.cons (app_obl2 (c := GTerm.c) (xs := v0.gKids) (ys := [u0g.2]) GTerm.c_len h565) .nil)))) ?_
                          refine Wc.r0 ⟨[tP 0 1000000, tI 1 un, tP 4 4, tP 6 6, tI 7 (wr.i64 (u17 + 1))], [(4, .cells [aI 0, .str (bs []), aI 0, .slx] [(3, .ex 26 true (List.map GTerm.c []))]), (6, .cells (GTerm.qx v0) [(3, .ex 26 true (List.map GTerm.c (v0.gKids ++ [u0g.2])))]), bC 1000000 (GL01Cur.q u0g.1)], []⟩ ?_
                          exact ⟨_, Nat.lt_succ_self _, _, _, _, rfl, h560⟩
                        · refine Wc.cF h563 ?_
                          refine Wc.fx [] ⟨[tP 0 1000000, tI 1 un, tP 4 4, tP 6 6, tI 7 u17], [(4, .cells [aI 0, .str (bs []), aI 0, .slx] [(3, .ex 26 true (List.map GTerm.c []))]), (6, .cells (GTerm.qx v0) (GTerm.h3_26t v0)), bC 1000000 (GL01Cur.q u1l.1)], []⟩ ?_
                          refine Wc.skip ?_
                          refine Wc.r0 ⟨[tP 0 1000000, tI 1 un, tP 4 4, tP 6 6, tI 7 (wr.i64 (u17 + 1))], [(4, .cells [aI 0, .str (bs []), aI 0, .slx] [(3, .ex 26 true (List.map GTerm.c []))]), (6, .cells (GTerm.qx v0) (GTerm.h3_26t v0)), bC 1000000 (GL01Cur.q u1l.1)], []⟩ ?_
                          exact ⟨_, Nat.lt_succ_self _, _, _, _, rfl, h560⟩
                      · refine Wc.cF h562 ?_
                        refine Wc.fx [] ⟨[tP 4 4, tP 6 6], [(4, .cells [aI 0, .str (bs []), aI 0, .slx] [(3, .ex 26 true (List.map GTerm.c []))]), (6, .cells (GTerm.qx v0) (GTerm.h3_26t v0)), bC 1000000 (GL01Cur.q u1l.1)], []⟩ ?_
                        refine Wc.exit ?_
                        obtain rfl := Option.some.inj h560
                        exact ⟨_, _, rfl, rfl⟩
                  · rintro st ⟨u4j, u7j, rfl, rfl⟩
                    apply Wc.seq
                    refine Wc.r1 [{ md := 1 }, { tk := [86] }] ⟨[tP 4 4], [(4, .cells (GTerm.qx u4j) (GTerm.h3_26t u4j)), bC 1000000 (GL01Cur.q u7j)], []⟩ ?_
                    obtain rfl := Option.some.inj h; exact Wc.ret dn
theorem cspec_l03Made_d {k : Nat} {u3e : GL01Cur} {un : Int} {r : GL01Cur × GTerm} (h : pspec_l03Made_d k u3e un = some r) : FnO Try.prog 35 [.p (GL01Cur.q u3e) [], .v (aI un) []] (.v (.agg (GTerm.qx r.2)) (GTerm.h3_26t r.2)) [(0, .p (GL01Cur.q r.1) [])] := (all_pspec_l03Made_d k) h

def pspec_l03Any_d_L1 (k : Nat) (vo : GL01Cur × Int) : Nat → Int → GTerm → Option (Out (GL01Cur × GTerm) GTerm)
  | 0, _, _ => none
  | m + 1, u2w, u04 =>
    if (4 : Int) ≠ 0 then
      if (decide (u2w < (wr.i64 (38 + (Int.tmod vo.2 4))))) = true then
        pspec_l03Any_d_L1 k vo m (wr.i64 (u2w + 1)) (GTerm.mk 4 (bs [115]) 0 [u04])
      else
        some (.done u04)
    else none
def pspec_l03Any_d (k : Nat) (u9v : GL01Cur) : Option (GL01Cur × GTerm) :=
  (pspec_l01Below k u9v 12).bind fun zw =>
  (pspec_l01Below k zw.1 60).bind fun vo =>
  (pspec_l03Made_d k vo.1 3).bind fun u4 =>
  if (zw.2 == 0) = true then
    if (6 : Int) ≠ 0 then
      some (u4.1, GTerm.mk (Int.tmod vo.2 6) u4.2.gName u4.2.gNum u4.2.gKids)
    else none
  else
    if (zw.2 == 1) = true then
      if (4 : Int) ≠ 0 then
        (at' [(bs []), (bs [97, 32, 98]), (bs [39]), (bs [97, 97, 97, 97, 97, 97, 97, 97, 97, 97, 97, 97, 97, 97, 97, 97, 97, 97, 97, 97, 97])] (Int.tmod vo.2 4)).bind fun u7k =>
        some (u4.1, GTerm.mk u4.2.gKind u7k u4.2.gNum u4.2.gKids)
      else none
    else
      if (zw.2 == 2) = true then
        if (3 : Int) ≠ 0 then
          (at' [-1, 100000, 1000000000] (Int.tmod vo.2 3)).bind fun u7l =>
          some (u4.1, GTerm.mk u4.2.gKind u4.2.gName u7l u4.2.gKids)
        else none
      else
        if (zw.2 == 3) = true then
          (pspec_l03Any_d_L1 k vo k 0 u4.2).bind fun out1 => match out1 with
          | .ret r => some r
          | .done uq =>
            some (u4.1, uq)
        else
          some (u4.1, u4.2)
set_option maxHeartbeats 4000000 in
theorem cspec_l03Any_d {k : Nat} {u9v : GL01Cur} {r : GL01Cur × GTerm} (h : pspec_l03Any_d k u9v = some r) : FnO Try.prog 46 [.p (GL01Cur.q u9v) []] (.v (.agg (GTerm.qx r.2)) (GTerm.h3_26t r.2)) [(0, .p (GL01Cur.q r.1) [])] := by
  refine FnO.o2 Try.func46 (rfl : Try.f46.body = some _) ?_
  intro w0 X0 Fin pv0 pb gt
  unfold pspec_l03Any_d at h
  apply Wc.seq
  refine Wc.r0 ⟨[tP 0 1000000, tP 2 2], [(2, .cells GTerm.z [(3, .app 26)]), bC 1000000 (GL01Cur.q u9v)], []⟩ ?_
  apply Wc.seq
  obtain ⟨zw, h523, h⟩ := obind h
  refine Wc.r2 [{}, { r := some (.v (aI zw.2) []), outs := [(0, .p (GL01Cur.q zw.1) [])] }] ⟨[tP 0 1000000, tP 2 2, tI 3 zw.2], [(2, .cells GTerm.z [(3, .app 26)]), bC 1000000 (GL01Cur.q zw.1)], []⟩ (.cons (cspec_l01Below h523) .nil) ?_
  apply Wc.seq
  obtain ⟨vo, h524, h⟩ := obind h
  refine Wc.r2 [{}, { r := some (.v (aI vo.2) []), outs := [(0, .p (GL01Cur.q vo.1) [])] }] ⟨[tP 0 1000000, tP 2 2, tI 3 zw.2, tI 4 vo.2], [(2, .cells GTerm.z [(3, .app 26)]), bC 1000000 (GL01Cur.q vo.1)], []⟩ (.cons (cspec_l01Below h524) .nil) ?_
  apply Wc.seq
  obtain ⟨u4, h525, h⟩ := obind h
  refine Wc.r2 [{}, { r := some (.v (.agg (GTerm.qx u4.2)) (GTerm.h3_26t u4.2)), outs := [(0, .p (GL01Cur.q u4.1) [])] }, {}, { tk := [12] }] ⟨[tP 2 2, tI 3 zw.2, tI 4 vo.2, tP 5 5], [(2, .cells GTerm.z [(3, .app 26)]), (5, .cells (GTerm.qx u4.2) (GTerm.h3_26t u4.2)), bC 1000000 (GL01Cur.q u4.1)], []⟩ (.cons (cspec_l03Made_d h525) .nil) ?_
  apply Wc.seq
  apply Wc.seq
  refine Wc.r0 ⟨[tP 2 2, tI 4 vo.2, tP 5 5, tI 13 zw.2], [(2, .cells GTerm.z [(3, .app 26)]), (5, .cells (GTerm.qx u4.2) (GTerm.h3_26t u4.2)), bC 1000000 (GL01Cur.q u4.1)], []⟩ ?_
  refine Wc.block ?_
  apply Wc.seq
  refine Wc.r0 ⟨[tP 2 2, tI 4 vo.2, tP 5 5, tI 13 zw.2, tB 14 (zw.2 == 0)], [(2, .cells GTerm.z [(3, .app 26)]), (5, .cells (GTerm.qx u4.2) (GTerm.h3_26t u4.2)), bC 1000000 (GL01Cur.q u4.1)], []⟩ ?_
  rcases oif h with ⟨h526, h⟩ | ⟨h526, h⟩
  · refine Wc.cT h526 ?_
    obtain ⟨h527, h⟩ := oguard h
    refine Wc.r2 [] ⟨[tP 2 2, tP 5 5], [(2, .cells GTerm.z [(3, .app 26)]), (5, .cells [aI (Int.tmod vo.2 6), .str u4.2.gName, aI u4.2.gNum, .slx] (GTerm.h3_26t u4.2)), bC 1000000 (GL01Cur.q u4.1)], []⟩ (.cons h527 .nil) ?_
    apply Wc.seq
    refine Wc.r1 [{ md := 1 }, { tk := [47] }] ⟨[tP 2 2], [(2, .cells [aI (Int.tmod vo.2 6), .str u4.2.gName, aI u4.2.gNum, .slx] (GTerm.h3_26t u4.2)), bC 1000000 (GL01Cur.q u4.1)], []⟩ ?_
    obtain rfl := Option.some.inj h; exact Wc.ret dn
  · refine Wc.cF h526 ?_
    apply Wc.seq
    refine Wc.r0 ⟨[tP 2 2, tI 4 vo.2, tP 5 5, tI 13 zw.2, tB 19 (zw.2 == 1)], [(2, .cells GTerm.z [(3, .app 26)]), (5, .cells (GTerm.qx u4.2) (GTerm.h3_26t u4.2)), bC 1000000 (GL01Cur.q u4.1)], []⟩ ?_
    rcases oif h with ⟨h528, h⟩ | ⟨h528, h⟩
    · refine Wc.cT h528 ?_
      obtain ⟨h529, h⟩ := oguard h
      obtain ⟨u7k, h530, h⟩ := obind h
      refine Wc.r2 [{ c := some (List.map cS [(bs []), (bs [97, 32, 98]), (bs [39]), (bs [97, 97, 97, 97, 97, 97, 97, 97, 97, 97, 97, 97, 97, 97, 97, 97, 97, 97, 97, 97, 97])]) }, {}, {}, { v := some (.vptr [.str u7k]) }] ⟨[tP 2 2, tP 5 5], [(2, .cells GTerm.z [(3, .app 26)]), (5, .cells [aI u4.2.gKind, .str u7k, aI u4.2.gNum, .slx] (GTerm.h3_26t u4.2)), bC 1000000 (GL01Cur.q u4.1)], []⟩ (.cons (cl_cons (c := cS) (x := (bs [])) rfl (cl_cons (c := cS) (x := (bs [97, 32, 98])) rfl (cl_cons (c := cS) (x := (bs [39])) rfl (cl_cons (c := cS) (x := (bs [97, 97, 97, 97, 97, 97, 97, 97, 97, 97, 97, 97, 97, 97, 97, 97, 97, 97, 97, 97, 97])) rfl (cl_nil cS))))) (.cons h529 (.cons (at_obl (c := cS) rfl cS_len h530) (.cons (len_ok 1 [.str u7k]) .nil)))) ?_
      apply Wc.seq
      refine Wc.r1 [{ md := 1 }, { tk := [47] }] ⟨[tP 2 2], [(2, .cells [aI u4.2.gKind, .str u7k, aI u4.2.gNum, .slx] (GTerm.h3_26t u4.2)), bC 1000000 (GL01Cur.q u4.1)], []⟩ ?_
      obtain rfl := Option.some.inj h; exact Wc.ret dn
    · refine Wc.cF h528 ?_
      apply Wc.seq
      refine Wc.r0 ⟨[tP 2 2, tI 4 vo.2, tP 5 5, tI 13 zw.2, tB 27 (zw.2 == 2)], [(2, .cells GTerm.z [(3, .app 26)]), (5, .cells (GTerm.qx u4.2) (GTerm.h3_26t u4.2)), bC 1000000 (GL01Cur.q u4.1)], []⟩ ?_
      rcases oif h with ⟨h531, h⟩ | ⟨h531, h⟩
      · refine Wc.cT h531 ?_
        obtain ⟨h532, h⟩ := oguard h
        obtain ⟨u7l, h533, h⟩ := obind h
        refine Wc.r2 [{ c := some (List.map cI.i64 [-1, 100000, 1000000000]) }, {}, {}, { v := some (.vptr [aI u7l]) }] ⟨[tP 2 2, tP 5 5], [(2, .cells GTerm.z [(3, .app 26)]), (5, .cells [aI u4.2.gKind, .str u4.2.gName, aI u7l, .slx] (GTerm.h3_26t u4.2)), bC 1000000 (GL01Cur.q u4.1)], []⟩ (.cons (cl_cons (c := cI.i64) (x := -1) rfl (cl_cons (c := cI.i64) (x := 100000) rfl (cl_cons (c := cI.i64) (x := 1000000000) rfl (cl_nil cI.i64)))) (.cons h532 (.cons (at_obl (c := cI.i64) rfl cI.i64_len h533) (.cons (len_ok 1 [aI u7l]) .nil)))) ?_
        apply Wc.seq
        refine Wc.r1 [{ md := 1 }, { tk := [47] }] ⟨[tP 2 2], [(2, .cells [aI u4.2.gKind, .str u4.2.gName, aI u7l, .slx] (GTerm.h3_26t u4.2)), bC 1000000 (GL01Cur.q u4.1)], []⟩ ?_
        obtain rfl := Option.some.inj h; exact Wc.ret dn
      · refine Wc.cF h531 ?_
        apply Wc.seq
        refine Wc.r0 ⟨[tP 2 2, tI 4 vo.2, tP 5 5, tB 35 (zw.2 == 3)], [(2, .cells GTerm.z [(3, .app 26)]), (5, .cells (GTerm.qx u4.2) (GTerm.h3_26t u4.2)), bC 1000000 (GL01Cur.q u4.1)], []⟩ ?_
        rcases oif h with ⟨h534, h⟩ | ⟨h534, h⟩
        · refine Wc.cT h534 ?_
          apply Wc.seq
          refine Wc.r0 ⟨[tP 2 2, tI 4 vo.2, tP 5 5, tI 6 0], [(2, .cells GTerm.z [(3, .app 26)]), (5, .cells (GTerm.qx u4.2) (GTerm.h3_26t u4.2)), bC 1000000 (GL01Cur.q u4.1)], []⟩ ?_
          obtain ⟨out1, h535, h⟩ := obind h
          refine Wc.lastJ (fun st => ∃ (uq : GTerm), out1 = .done uq ∧ st = ⟨[tP 2 2, tP 5 5], [(2, .cells [aI 0, .str (bs []), aI 0, .slx] [(3, .ex 26 true (List.map GTerm.c []))]), (5, .cells (GTerm.qx uq) (GTerm.h3_26t uq)), bC 1000000 (GL01Cur.q u4.1)], []⟩) ?_ ?_
          · refine Wc.block ?_
            refine Wc.fx [.ow (.b 2 3) true] ⟨[tP 2 2, tI 4 vo.2, tP 5 5, tI 6 0], [(2, .cells [aI 0, .str (bs []), aI 0, .slx] [(3, .ex 26 true (List.map GTerm.c []))]), (5, .cells (GTerm.qx u4.2) (GTerm.h3_26t u4.2)), bC 1000000 (GL01Cur.q u4.1)], []⟩ ?_
            refine Wc.loop (fun m st => ∃ (u2w : Int) (u04 : GTerm), st = ⟨[tP 2 2, tI 4 vo.2, tP 5 5, tI 6 u2w], [(2, .cells [aI 0, .str (bs []), aI 0, .slx] [(3, .ex 26 true (List.map GTerm.c []))]), (5, .cells (GTerm.qx u04) (GTerm.h3_26t u04)), bC 1000000 (GL01Cur.q u4.1)], []⟩ ∧ pspec_l03Any_d_L1 k vo m u2w u04 = some out1) ?_ k ⟨_, _, rfl, h535⟩
            rintro m st ⟨u2w, u04, rfl, h535⟩
            cases m with
            | zero => exact (onone h535).elim
            | succ m =>
              apply Wc.seq
              apply Wc.seq
              obtain ⟨h536, h535⟩ := oguard h535
              refine Wc.r2 [] ⟨[tP 2 2, tI 4 vo.2, tP 5 5, tI 6 u2w, tB 41 (decide (u2w < (wr.i64 (38 + (Int.tmod vo.2 4)))))], [(2, .cells [aI 0, .str (bs []), aI 0, .slx] [(3, .ex 26 true (List.map GTerm.c []))]), (5, .cells (GTerm.qx u04) (GTerm.h3_26t u04)), bC 1000000 (GL01Cur.q u4.1)], []⟩ (.cons h536 .nil) ?_
              rcases oif h535 with ⟨h537, h535⟩ | ⟨h537, h535⟩
              · refine Wc.cT h537 ?_
                refine Wc.fx [] ⟨[tP 2 2, tI 4 vo.2, tP 5 5, tI 6 u2w], [(2, .cells [aI 0, .str (bs []), aI 0, .slx] [(3, .ex 26 true (List.map GTerm.c []))]), (5, .cells (GTerm.qx u04) (GTerm.h3_26t u04)), bC 1000000 (GL01Cur.q u4.1)], []⟩ ?_
                refine Wc.skip ?_
                apply Wc.seq
                refine Wc.block ?_
                refine Wc.r2 [{ md := 1 }, { c := some (List.map GTerm.c [u04]), tk := [44], md := 2 }, { tk := [45] }, { tk := [46] }] ⟨[tP 2 2, tI 4 vo.2, tP 5 5, tI 6 u2w], [(2, .cells [aI 0, .str (bs []), aI 0, .slx] [(3, .ex 26 true (List.map GTerm.c []))]), (5, .cells [aI 4, .str (bs [115]), aI 0, .slx] [(3, .ex 26 true (List.map GTerm.c [u04]))]), bC 1000000 (GL01Cur.q u4.1)], []⟩ (.cons (cl_cons (c := GTerm.c) (x := u04) (GTerm.c_eq u04) (cl_nil GTerm.c)) .nil) ?_
                refine Wc.r0 ⟨[tP 2 2, tI 4 vo.2, tP 5 5, tI 6 (wr.i64 (u2w + 1))], [(2, .cells [aI 0, .str (bs []), aI 0, .slx] [(3, .ex 26 true (List.map GTerm.c []))]), (5, .cells [aI 4, .str (bs [115]), aI 0, .slx] [(3, .ex 26 true (List.map GTerm.c [u04]))]), bC 1000000 (GL01Cur.q u4.1)], []⟩ ?_
                exact ⟨_, Nat.lt_succ_self _, _, _, rfl, h535⟩
              · refine Wc.cF h537 ?_
                refine Wc.fx [] ⟨[tP 2 2, tP 5 5], [(2, .cells [aI 0, .str (bs []), aI 0, .slx] [(3, .ex 26 true (List.map GTerm.c []))]), (5, .cells (GTerm.qx u04) (GTerm.h3_26t u04)), bC 1000000 (GL01Cur.q u4.1)], []⟩ ?_
                refine Wc.exit ?_
                obtain rfl := Option.some.inj h535
                exact ⟨_, rfl, rfl⟩
          · rintro st ⟨uq, rfl, rfl⟩
            apply Wc.seq
            refine Wc.r1 [{ md := 1 }, { tk := [47] }] ⟨[tP 2 2], [(2, .cells (GTerm.qx uq) (GTerm.h3_26t uq)), bC 1000000 (GL01Cur.q u4.1)], []⟩ ?_
            obtain rfl := Option.some.inj h; exact Wc.ret dn
        · refine Wc.cF h534 ?_
          refine Wc.fx [] ⟨[tP 2 2, tP 5 5], [(2, .cells GTerm.z [(3, .app 26)]), (5, .cells (GTerm.qx u4.2) (GTerm.h3_26t u4.2)), bC 1000000 (GL01Cur.q u4.1)], []⟩ ?_
          refine Wc.skip ?_
          apply Wc.seq
          refine Wc.r1 [{ md := 1 }, { tk := [47] }] ⟨[tP 2 2], [(2, .cells (GTerm.qx u4.2) (GTerm.h3_26t u4.2)), bC 1000000 (GL01Cur.q u4.1)], []⟩ ?_
          obtain rfl := Option.some.inj h; exact Wc.ret dn

def pspec_l04Any (k : Nat) (u9w : GL01Cur) : Option (GL01Cur × GBinds) :=
  (pspec_l01Below k u9w 10).bind fun u0s =>
  (pspec_l04Binds_d k u0s.1).bind fun ui =>
  if (u0s.2 == 0) = true then
    (pspec_l03Var_d k 1).bind fun u23 =>
    (at' ui.2.gList 0).bind fun uci =>
    (pspec_l03Var_d k 0).bind fun u3f =>
    (at' (ui.2.gList.set (((0 : Int)).toNat) u23) 1).bind fun ucj =>
    some (ui.1, GBinds.mk ((ui.2.gList.set (((0 : Int)).toNat) u23).set (((1 : Int)).toNat) u3f))
  else
    if (u0s.2 == 1) = true then
      (pspec_l03Any_d k ui.1).bind fun u18 =>
      (at' ui.2.gList 2).bind fun uck =>
      some (u18.1, GBinds.mk (ui.2.gList.set (((2 : Int)).toNat) u18.2))
    else
      if (u0s.2 == 2) = true then
        if 0 ≤ (2 : Int) ∧ (2 : Int) ≤ (ui.2.gList.length : Int) then
          some (ui.1, GBinds.mk (ui.2.gList.take ((2 : Int)).toNat))
        else none
      else
        some (ui.1, ui.2)
set_option maxHeartbeats 4000000 in
theorem cspec_l04Any {k : Nat} {u9w : GL01Cur} {r : GL01Cur × GBinds} (h : pspec_l04Any k u9w = some r) : FnO Try.prog 47 [.p (GL01Cur.q u9w) []] (.v (.agg [.sl (List.map GTerm.c r.2.gList)]) []) [(0, .p (GL01Cur.q r.1) [])] := by
  refine FnO.o2 Try.func47 (rfl : Try.f47.body = some _) ?_
  intro w0 X0 Fin pv0 pb gt
  unfold pspec_l04Any at h
  apply Wc.seq
  refine Wc.r0 ⟨[tP 0 1000000, tP 2 2], [(2, .cells GBinds.z [(0, .app 26)]), bC 1000000 (GL01Cur.q u9w)], []⟩ ?_
  apply Wc.seq
  obtain ⟨u0s, h500, h⟩ := obind h
  refine Wc.r2 [{}, { r := some (.v (aI u0s.2) []), outs := [(0, .p (GL01Cur.q u0s.1) [])] }] ⟨[tP 0 1000000, tP 2 2, tI 3 u0s.2], [(2, .cells GBinds.z [(0, .app 26)]), bC 1000000 (GL01Cur.q u0s.1)], []⟩ (.cons (cspec_l01Below h500) .nil) ?_
  apply Wc.seq
  obtain ⟨ui, h501, h⟩ := obind h
  refine Wc.r2 [{}, { r := some (.v (.agg [.slx]) (GUnifier.h0_26t ui.2.gList)), outs := [(0, .p (GL01Cur.q ui.1) [])] }, {}, { tk := [8] }] ⟨[tP 0 1000000, tP 2 2, tI 3 u0s.2, tP 4 4], [(2, .cells GBinds.z [(0, .app 26)]), (4, .cells [.slx] (GUnifier.h0_26t ui.2.gList)), bC 1000000 (GL01Cur.q ui.1)], []⟩ (.cons (cspec_l04Binds_d h501) .nil) ?_
  apply Wc.seq
  apply Wc.seq
  refine Wc.r0 ⟨[tP 0 1000000, tP 2 2, tP 4 4, tI 9 u0s.2], [(2, .cells GBinds.z [(0, .app 26)]), (4, .cells [.slx] (GUnifier.h0_26t ui.2.gList)), bC 1000000 (GL01Cur.q ui.1)], []⟩ ?_
  refine Wc.block ?_
  apply Wc.seq
  refine Wc.r0 ⟨[tP 0 1000000, tP 2 2, tP 4 4, tI 9 u0s.2, tB 10 (u0s.2 == 0)], [(2, .cells GBinds.z [(0, .app 26)]), (4, .cells [.slx] (GUnifier.h0_26t ui.2.gList)), bC 1000000 (GL01Cur.q ui.1)], []⟩ ?_
  rcases oif h with ⟨h502, h⟩ | ⟨h502, h⟩
  · refine Wc.cT h502 ?_
    apply Wc.seq
    obtain ⟨u23, h503, h⟩ := obind h
    obtain ⟨uci, h504, h⟩ := obind h
    refine Wc.draw hmix [{}, {}, { r := some (.v (.agg (GTerm.qx u23)) (GTerm.h3_26t u23)) }, {}, { c := some (List.map GTerm.c (ui.2.gList.set (((0 : Int)).toNat) u23)), tk := [14] }] [] [2, 4] [2, 4, 1000000] [] ⟨[tP 2 2, tP 4 4], [(2, .cells GBinds.z [(0, .app 26)]), (4, .cells [.slx] [(0, .ex 26 true (List.map GTerm.c (ui.2.gList.set (((0 : Int)).toNat) u23)))]), bC 1000000 (GL01Cur.q ui.1)], []⟩ _ (by kernel_rfl) (fun X => by kernel_rfl) (.cons (cspec_l03Var_d h503) (.cons (ix_obl (c := GTerm.c) GTerm.c_len h504) (.cons (mod_obl (off := 0) (new := (GTerm.q u23)) (c := GTerm.c) (GTerm.c_eq uci) (GTerm.c_eq u23) (at'_spec h504).2 rfl) (.cons (st_obl (sz := 4) (off := 0) (s := 4) (c := GTerm.c) (GTerm.c_eq uci) (at'_spec h504).2 rfl (Nat.le_of_ble_eq_true rfl)) .nil)))) ?_
    obtain ⟨u3f, h505, h⟩ := obind h
    obtain ⟨ucj, h506, h⟩ := obind h
    refine Wc.draw hmix [{}, {}, { r := some (.v (.agg (GTerm.qx u3f)) (GTerm.h3_26t u3f)) }, {}, { c := some (List.map GTerm.c ((ui.2.gList.set (((0 : Int)).toNat) u23).set (((1 : Int)).toNat) u3f)), tk := [18] }] [] [2, 4] [2, 4, 1000000] [] ⟨[tP 2 2, tP 4 4], [(2, .cells GBinds.z [(0, .app 26)]), (4, .cells [.slx] [(0, .ex 26 true (List.map GTerm.c ((ui.2.gList.set (((0 : Int)).toNat) u23).set (((1 : Int)).toNat) u3f)))]), bC 1000000 (GL01Cur.q ui.1)], []⟩ _ (by kernel_rfl) (fun X => by kernel_rfl) (.cons (cspec_l03Var_d h505) (.cons (ix_obl (c := GTerm.c) GTerm.c_len h506) (.cons (mod_obl (off := 0) (new := (GTerm.q u3f)) (c := GTerm.c) (GTerm.c_eq ucj) (GTerm.c_eq u3f) (at'_spec h506).2 rfl) (.cons (st_obl (sz := 4) (off := 0) (s := 4) (c := GTerm.c) (GTerm.c_eq ucj) (at'_spec h506).2 rfl (Nat.le_of_ble_eq_true rfl)) .nil)))) ?_
    apply Wc.seq
    refine Wc.r1 [{ md := 1 }, { tk := [33] }] ⟨[tP 2 2], [(2, .cells [.slx] [(0, .ex 26 true (List.map GTerm.c ((ui.2.gList.set (((0 : Int)).toNat) u23).set (((1 : Int)).toNat) u3f)))]), bC 1000000 (GL01Cur.q ui.1)], []⟩ ?_
    refine Wc.fx [.sh (.b 2 0)] ⟨[tP 2 2], [bC 2 [.sl (List.map GTerm.c ((ui.2.gList.set (((0 : Int)).toNat) u23).set (((1 : Int)).toNat) u3f))], bC 1000000 (GL01Cur.q ui.1)], []⟩ ?_
    obtain rfl := Option.some.inj h; exact Wc.ret dn
  · refine Wc.cF h502 ?_
    apply Wc.seq
    refine Wc.r0 ⟨[tP 0 1000000, tP 2 2, tP 4 4, tI 9 u0s.2, tB 20 (u0s.2 == 1)], [(2, .cells GBinds.z [(0, .app 26)]), (4, .cells [.slx] (GUnifier.h0_26t ui.2.gList)), bC 1000000 (GL01Cur.q ui.1)], []⟩ ?_
    rcases oif h with ⟨h507, h⟩ | ⟨h507, h⟩
    · refine Wc.cT h507 ?_
      obtain ⟨u18, h508, h⟩ := obind h
      obtain ⟨uck, h509, h⟩ := obind h
      refine Wc.draw hmix [{}, {}, {}, { r := some (.v (.agg (GTerm.qx u18.2)) (GTerm.h3_26t u18.2)), outs := [(0, .p (GL01Cur.q u18.1) [])] }, {}, { c := some (List.map GTerm.c (ui.2.gList.set (((2 : Int)).toNat) u18.2)), tk := [25] }] [] [2, 4] [2, 4, 1000000] [] ⟨[tP 2 2, tP 4 4], [(2, .cells GBinds.z [(0, .app 26)]), (4, .cells [.slx] [(0, .ex 26 true (List.map GTerm.c (ui.2.gList.set (((2 : Int)).toNat) u18.2)))]), bC 1000000 (GL01Cur.q u18.1)], []⟩ _ (by kernel_rfl) (fun X => by kernel_rfl) (.cons (cspec_l03Any_d h508) (.cons (ix_obl (c := GTerm.c) GTerm.c_len h509) (.cons (mod_obl (off := 0) (new := (GTerm.q u18.2)) (c := GTerm.c) (GTerm.c_eq uck) (GTerm.c_eq u18.2) (at'_spec h509).2 rfl) (.cons (st_obl (sz := 4) (off := 0) (s := 4) (c := GTerm.c) (GTerm.c_eq uck) (at'_spec h509).2 rfl (Nat.le_of_ble_eq_true rfl)) .nil)))) ?_
      apply Wc.seq
      refine Wc.r1 [{ md := 1 }, { tk := [33] }] ⟨[tP 2 2], [(2, .cells [.slx] [(0, .ex 26 true (List.map GTerm.c (ui.2.gList.set (((2 : Int)).toNat) u18.2)))]), bC 1000000 (GL01Cur.q u18.1)], []⟩ ?_
      refine Wc.fx [.sh (.b 2 0)] ⟨[tP 2 2], [bC 2 [.sl (List.map GTerm.c (ui.2.gList.set (((2 : Int)).toNat) u18.2))], bC 1000000 (GL01Cur.q u18.1)], []⟩ ?_
      obtain rfl := Option.some.inj h; exact Wc.ret dn
    · refine Wc.cF h507 ?_
      apply Wc.seq
      refine Wc.r0 ⟨[tP 2 2, tP 4 4, tB 27 (u0s.2 == 2)], [(2, .cells GBinds.z [(0, .app 26)]), (4, .cells [.slx] (GUnifier.h0_26t ui.2.gList)), bC 1000000 (GL01Cur.q ui.1)], []⟩ ?_
      rcases oif h with ⟨h510, h⟩ | ⟨h510, h⟩
      · refine Wc.cT h510 ?_
        obtain ⟨h511, h⟩ := oguard h
        refine Wc.r2 [{}, {}, { c := some (List.map GTerm.c (ui.2.gList.take ((2 : Int)).toNat)), tk := [30], fx := [.pl 30] }, {}, { tk := [31] }] ⟨[tP 2 2, tP 4 4], [(2, .cells GBinds.z [(0, .app 26)]), (4, .cells [.slx] [(0, .ex 26 true (List.map GTerm.c (ui.2.gList.take ((2 : Int)).toNat)))]), bC 1000000 (GL01Cur.q ui.1)], []⟩ (.cons (take_re GTerm.c ui.2.gList 2) (.cons (take_obl (c := GTerm.c) h511) .nil)) ?_
        apply Wc.seq
        refine Wc.r1 [{ md := 1 }, { tk := [33] }] ⟨[tP 2 2], [(2, .cells [.slx] [(0, .ex 26 true (List.map GTerm.c (ui.2.gList.take ((2 : Int)).toNat)))]), bC 1000000 (GL01Cur.q ui.1)], []⟩ ?_
        refine Wc.fx [.sh (.b 2 0)] ⟨[tP 2 2], [bC 2 [.sl (List.map GTerm.c (ui.2.gList.take ((2 : Int)).toNat))], bC 1000000 (GL01Cur.q ui.1)], []⟩ ?_
        obtain rfl := Option.some.inj h; exact Wc.ret dn
      · refine Wc.cF h510 ?_
        refine Wc.fx [] ⟨[tP 2 2, tP 4 4], [(2, .cells GBinds.z [(0, .app 26)]), (4, .cells [.slx] (GUnifier.h0_26t ui.2.gList)), bC 1000000 (GL01Cur.q ui.1)], []⟩ ?_
        refine Wc.skip ?_
        apply Wc.seq
        refine Wc.r1 [{ md := 1 }, { tk := [33] }] ⟨[tP 2 2], [(2, .cells [.slx] (GUnifier.h0_26t ui.2.gList)), bC 1000000 (GL01Cur.q ui.1)], []⟩ ?_
        refine Wc.fx [.sh (.b 2 0)] ⟨[tP 2 2], [bC 2 [.sl (List.map GTerm.c ui.2.gList)], bC 1000000 (GL01Cur.q ui.1)], []⟩ ?_
        obtain rfl := Option.some.inj h; exact Wc.ret dn

def pspec_DrawWalked (k : Nat) (u9x : List Int) : Option (GBinds × GTerm) :=
  (pspec_l01New k u9x).bind fun ubz =>
  (pspec_l03Any k ubz).bind fun u41 =>
  (pspec_l04Any k u41.1).bind fun u7m =>
  some (u7m.2, u41.2)
theorem cspec_DrawWalked {k : Nat} {u9x : List Int} {r : GBinds × GTerm} (h : pspec_DrawWalked k u9x = some r) : FnO Try.prog 29 [.v (.sl (List.map cI.u8 u9x)) []] (.v (.tup [.agg [.sl (List.map GTerm.c r.1.gList)], .agg (GTerm.q r.2)]) []) [] := by
  refine FnO.o2 Try.func29 (rfl : Try.f29.body = some _) ?_
  intro w0 X0 Fin pv0 pb gt
  unfold pspec_DrawWalked at h
  apply Wc.seq
  refine Wc.r0 ⟨[tV 0 (.sl (List.map cI.u8 u9x)), tP 2 2, tP 3 3], [(2, .cells GBinds.z [(0, .app 26)]), (3, .cells GTerm.z [(3, .app 26)])], []⟩ ?_
  apply Wc.seq
  obtain ⟨ubz, h512, h⟩ := obind h
  refine Wc.r2 [{}, { r := some (.p (GL01Cur.q ubz) []) }] ⟨[tP 2 2, tP 3 3, tP 4 7], [(2, .cells GBinds.z [(0, .app 26)]), (3, .cells GTerm.z [(3, .app 26)]), bC 7 (GL01Cur.q ubz)], []⟩ (.cons (cspec_l01New h512) .nil) ?_
  apply Wc.seq
  obtain ⟨u41, h513, h⟩ := obind h
  refine Wc.r2 [{}, { r := some (.v (.agg (GTerm.q u41.2)) [(3, .app 26)]), outs := [(0, .p (GL01Cur.q u41.1) [])] }, {}, { tk := [9] }] ⟨[tP 2 2, tP 3 3, tP 4 7, tP 5 5], [(2, .cells GBinds.z [(0, .app 26)]), (3, .cells GTerm.z [(3, .app 26)]), (5, .cells (GTerm.q u41.2) [(3, .app 26)]), bC 7 (GL01Cur.q u41.1)], []⟩ (.cons (cspec_l03Any h513) .nil) ?_
  apply Wc.seq
  obtain ⟨u7m, h514, h⟩ := obind h
  refine Wc.draw hmix [{}, { r := some (.v (.agg [.sl (List.map GTerm.c u7m.2.gList)]) []), outs := [(0, .p (GL01Cur.q u7m.1) [])] }, { md := 1 }, {}, { tk := [12] }] [] [2, 3] [2, 3] [] ⟨[tP 2 2, tP 3 3], [bC 2 [.sl (List.map GTerm.c u7m.2.gList)], (3, .cells (GTerm.q u41.2) [(3, .app 26)])], []⟩ _ (by kernel_rfl) (fun X => by kernel_rfl) (.cons (cspec_l04Any h514) .nil) ?_
  refine Wc.fx [.un (.b 3 3)] ⟨[tP 2 2, tP 3 3], [bC 2 [.sl (List.map GTerm.c u7m.2.gList)], bC 3 (GTerm.q u41.2)], []⟩ ?_
  obtain rfl := Option.some.inj h; exact Wc.ret dn

def pspec_DrawFilled (k : Nat) (u9y : List Int) : Option (GBinds × GTerm) :=
  (pspec_DrawWalked k u9y).bind fun u56 =>
  some (u56.1, u56.2)
theorem cspec_DrawFilled {k : Nat} {u9y : List Int} {r : GBinds × GTerm} (h : pspec_DrawFilled k u9y = some r) : FnO Try.prog 11 [.v (.sl (List.map cI.u8 u9y)) []] (.v (.tup [.agg [.sl (List.map GTerm.c r.1.gList)], .agg (GTerm.q r.2)]) []) [] := by
  refine FnO.o2 Try.func11 (rfl : Try.f11.body = some _) ?_
  intro w0 X0 Fin pv0 pb gt
  unfold pspec_DrawFilled at h
  apply Wc.seq
  refine Wc.r0 ⟨[tV 0 (.sl (List.map cI.u8 u9y)), tP 2 2, tP 3 3], [(2, .cells GBinds.z [(0, .app 26)]), (3, .cells GTerm.z [(3, .app 26)])], []⟩ ?_
  apply Wc.seq
  obtain ⟨u56, h515, h⟩ := obind h
  refine Wc.r2 [{}, { r := some (.v (.tup [.agg [.sl (List.map GTerm.c u56.1.gList)], .agg (GTerm.q u56.2)]) []) }] ⟨[tP 2 2, tP 3 3], [bC 2 [.sl (List.map GTerm.c u56.1.gList)], bC 3 (GTerm.q u56.2)], []⟩ (.cons (cspec_DrawWalked h515) .nil) ?_
  obtain rfl := Option.some.inj h; exact Wc.ret dn

def pspec_Filled (k : Nat) (u2i : GBinds) (u9z : GTerm) : Option (GTerm × Bool) :=
  (pspec_l04Filled k u2i.gList u9z).bind fun u57 =>
  some (u57.1, u57.2)
theorem cspec_Filled {k : Nat} {u2i : GBinds} {u9z : GTerm} {r : GTerm × Bool} (h : pspec_Filled k u2i u9z = some r) : FnO Try.prog 12 [.v (.agg [.sl (List.map GTerm.c u2i.gList)]) [], .v (.agg (GTerm.q u9z)) []] (.v (.tup [.agg (GTerm.q r.1), .bool r.2]) [(3, .app 26)]) [] := by
  refine FnO.o2 Try.func12 (rfl : Try.f12.body = some _) ?_
  intro w0 X0 Fin pv0 pb gt
  unfold pspec_Filled at h
  apply Wc.seq
  refine Wc.r0 ⟨[tP 2 2, tP 3 3, tP 4 4], [bC 2 [.sl (List.map GTerm.c u2i.gList)], bC 3 (GTerm.q u9z), (4, .cells GTerm.z [(3, .app 26)])], []⟩ ?_
  apply Wc.seq
  obtain ⟨u57, h517, h⟩ := obind h
  refine Wc.r2 [{}, {}, {}, { r := some (.v (.tup [.agg (GTerm.q u57.1), .bool u57.2]) [(3, .app 26)]) }, { tk := [9] }, {}, { tk := [10] }] ⟨[tP 4 4, tB 5 u57.2], [(4, .cells (GTerm.q u57.1) [(3, .app 26)])], []⟩ (.cons (cspec_l04Filled h517) .nil) ?_
  obtain rfl := Option.some.inj h; exact Wc.ret dn

def pspec_DrawBindsNew (k : Nat) (ua0 : List Int) : Option Int :=
  (pspec_l01New k ua0).bind fun uc0 =>
  (pspec_l01PickInt k uc0 [0, 3, -1, 5000, 5001]).bind fun ua1 =>
  some ua1.2
theorem cspec_DrawBindsNew {k : Nat} {ua0 : List Int} {r : Int} (h : pspec_DrawBindsNew k ua0 = some r) : FnO Try.prog 13 [.v (.sl (List.map cI.u8 ua0)) []] (.v (aI r) []) [] := by
  refine FnO.o2 Try.func13 (rfl : Try.f13.body = some _) ?_
  intro w0 X0 Fin pv0 pb gt
  unfold pspec_DrawBindsNew at h
  apply Wc.seq
  refine Wc.r0 ⟨[tV 0 (.sl (List.map cI.u8 ua0))], [], []⟩ ?_
  apply Wc.seq
  obtain ⟨uc0, h518, h⟩ := obind h
  refine Wc.r2 [{}, { r := some (.p (GL01Cur.q uc0) []) }] ⟨[tP 3 5], [bC 5 (GL01Cur.q uc0)], []⟩ (.cons (cspec_l01New h518) .nil) ?_
  apply Wc.seq
  obtain ⟨ua1, h519, h⟩ := obind h
  refine Wc.r2 [{}, { c := some (List.map cI.i64 [0, 3, -1, 5000, 5001]) }, { r := some (.v (aI ua1.2) []), outs := [(0, .p (GL01Cur.q ua1.1) [])] }] ⟨[tI 2 ua1.2], [], []⟩ (.cons (cl_cons (c := cI.i64) (x := 0) rfl (cl_cons (c := cI.i64) (x := 3) rfl (cl_cons (c := cI.i64) (x := -1) rfl (cl_cons (c := cI.i64) (x := 5000) rfl (cl_cons (c := cI.i64) (x := 5001) rfl (cl_nil cI.i64)))))) (.cons (cspec_l01PickInt h519) .nil)) ?_
  obtain rfl := Option.some.inj h; exact Wc.ret dn

def pspec_SameTerm_L1 (k : Nat) (rspec_SameTerm : GTerm → GTerm → Option Bool) (uq : GTerm) (v8 : GTerm) : Nat → Int → Option (Out Bool Unit)
  | 0, _ => none
  | m + 1, u1m =>
    if (decide (u1m < (uq.gKids.length : Int))) = true then
      (at' uq.gKids u1m).bind fun u0f =>
      (at' v8.gKids u1m).bind fun ua2 =>
      (rspec_SameTerm u0f ua2).bind fun uc1 =>
      if (!uc1) = true then
        some (.ret false)
      else
        pspec_SameTerm_L1 k rspec_SameTerm uq v8 m (wr.i64 (u1m + 1))
    else
      some (.done ())
mutual
def pspec_SameTerm : Nat → GTerm → GTerm → Option Bool
  | 0, _, _ => none
  | k + 1, uq, v8 =>
    if (uq.gKind != v8.gKind) = true then
      some false
    else
      if (!(sEq uq.gName v8.gName)) = true then
        some false
      else
        if (uq.gNum != v8.gNum) = true then
          some false
        else
          if ((uq.gKids.length : Int) != (v8.gKids.length : Int)) = true then
            some false
          else
            (pspec_SameTerm_L1 k (pspec_SameTerm k) uq v8 k 0).bind fun out1 => match out1 with
            | .ret r => some r
            | .done () =>
              some true
end
theorem all_pspec_SameTerm : ∀ k : Nat, (∀ {uq : GTerm} {v8 : GTerm} {r : Bool}, pspec_SameTerm k uq v8 = some r → FnO Try.prog 14 [.v (.agg (GTerm.q uq)) [], .v (.agg (GTerm.q v8)) []] (.v (.bool r) []) []) := by
  intro k
  induction k with
  | zero =>
    · intro uq v8 r h
      exact (onone (by rw [pspec_SameTerm] at h; exact h)).elim
  | succ k ih =>
    have ih_pspec_SameTerm := @ih
    · intro uq v8 r h
      rw [pspec_SameTerm] at h
      refine FnO.o2 Try.func14 (rfl : Try.f14.body = some _) ?_
      intro w0 X0 Fin pv0 pb gt
      apply Wc.seq
      refine Wc.r0 ⟨[tP 2 2, tP 3 3], [bC 2 (GTerm.q uq), bC 3 (GTerm.q v8)], []⟩ ?_
      apply Wc.seq
      apply Wc.seq
      rcases oif h with ⟨h520, h⟩ | ⟨h520, h⟩
      · refine Wc.r2 [{}, {}, {}, {}, {}, { re := some (.bool true) }] ⟨[tP 2 2, tP 3 3, tB 33 true], [bC 2 (GTerm.q uq), bC 3 (GTerm.q v8)], []⟩ (.cons (congrArg AV.bool h520) .nil) ?_
        refine Wc.cT rfl ?_
        apply Wc.seq
        refine Wc.r0 ⟨[tB 4 false], [], []⟩ ?_
        obtain rfl := Option.some.inj h; exact Wc.ret dn
      · rcases oif h with ⟨h521, h⟩ | ⟨h521, h⟩
        · refine Wc.r2 [{}, {}, {}, {}, {}, { re := some (.bool false) }, {}, {}, {}, {}, {}, {}, { re := some (.bool true) }] ⟨[tP 2 2, tP 3 3, tB 33 true], [bC 2 (GTerm.q uq), bC 3 (GTerm.q v8)], []⟩ (.cons (congrArg AV.bool h520) (.cons (congrArg AV.bool h521) .nil)) ?_
          refine Wc.cT rfl ?_
          apply Wc.seq
          refine Wc.r0 ⟨[tB 4 false], [], []⟩ ?_
          obtain rfl := Option.some.inj h; exact Wc.ret dn
        · rcases oif h with ⟨h522, h⟩ | ⟨h522, h⟩
          · refine Wc.r2 [{}, {}, {}, {}, {}, { re := some (.bool false) }, {}, {}, {}, {}, {}, {}, { re := some (.bool false) }, {}, {}, {}, {}, {}, {}, { re := some (.bool true) }] ⟨[tP 2 2, tP 3 3, tB 33 true], [bC 2 (GTerm.q uq), bC 3 (GTerm.q v8)], []⟩ (.cons (congrArg AV.bool h520) (.cons (congrArg AV.bool h521) (.cons (congrArg AV.bool h522) .nil))) ?_
            refine Wc.cT rfl ?_
            apply Wc.seq
            refine Wc.r0 ⟨[tB 4 false], [], []⟩ ?_
            obtain rfl := Option.some.inj h; exact Wc.ret dn
          · refine Wc.r2 [{}, {}, {}, {}, {}, { re := some (.bool false) }, {}, {}, {}, {}, {}, {}, { re := some (.bool false) }, {}, {}, {}, {}, {}, {}, { re := some (.bool false) }, {}, {}, { v := some (aI (uq.gKids.length : Int)) }, {}, {}, { v := some (aI (v8.gKids.length : Int)) }] ⟨[tP 2 2, tP 3 3, tB 33 ((uq.gKids.length : Int) != (v8.gKids.length : Int))], [bC 2 (GTerm.q uq), bC 3 (GTerm.q v8)], []⟩ (.cons (congrArg AV.bool h520) (.cons (congrArg AV.bool h521) (.cons (congrArg AV.bool h522) (.cons (len_obl GTerm.c uq.gKids) (.cons (len_obl GTerm.c v8.gKids) .nil))))) ?_
            rcases oif h with ⟨h523, h⟩ | ⟨h523, h⟩
            · refine Wc.cT h523 ?_
              apply Wc.seq
              refine Wc.r0 ⟨[tB 4 false], [], []⟩ ?_
              obtain rfl := Option.some.inj h; exact Wc.ret dn
            · refine Wc.cF h523 ?_
              refine Wc.fx [] ⟨[tP 2 2, tP 3 3], [bC 2 (GTerm.q uq), bC 3 (GTerm.q v8)], []⟩ ?_
              refine Wc.skip ?_
              apply Wc.seq
              apply Wc.seq
              refine Wc.r0 ⟨[tP 2 2, tP 3 3, tI 5 0], [bC 2 (GTerm.q uq), bC 3 (GTerm.q v8)], []⟩ ?_
              obtain ⟨out1, h524, h⟩ := obind h
              refine Wc.lastJ (fun st => out1 = .done () ∧ st = ⟨[], [], []⟩) ?_ ?_
              · refine Wc.block ?_
                refine Wc.loop (fun m st => ∃ (u1m : Int), st = ⟨[tP 2 2, tP 3 3, tI 5 u1m], [bC 2 (GTerm.q uq), bC 3 (GTerm.q v8)], []⟩ ∧ pspec_SameTerm_L1 k (pspec_SameTerm k) uq v8 m u1m = some out1) ?_ k ⟨_, rfl, h524⟩
                rintro m st ⟨u1m, rfl, h524⟩
                cases m with
                | zero => exact (onone h524).elim
                | succ m =>
                  apply Wc.seq
                  apply Wc.seq
                  refine Wc.r2 [{}, {}, {}, { v := some (aI (uq.gKids.length : Int)) }] ⟨[tP 2 2, tP 3 3, tI 5 u1m, tB 38 (decide (u1m < (uq.gKids.length : Int)))], [bC 2 (GTerm.q uq), bC 3 (GTerm.q v8)], []⟩ (.cons (len_obl GTerm.c uq.gKids) .nil) ?_
                  rcases oif h524 with ⟨h525, h524⟩ | ⟨h525, h524⟩
                  · refine Wc.cT h525 ?_
                    refine Wc.fx [] ⟨[tP 2 2, tP 3 3, tI 5 u1m], [bC 2 (GTerm.q uq), bC 3 (GTerm.q v8)], []⟩ ?_
                    refine Wc.skip ?_
                    apply Wc.seq
                    refine Wc.block ?_
                    apply Wc.seq
                    obtain ⟨u0f, h526, h524⟩ := obind h524
                    obtain ⟨ua2, h527, h524⟩ := obind h524
                    obtain ⟨uc1, h528, h524⟩ := obind h524
                    refine Wc.draw hmix [{}, {}, {}, { v := some (.vptr (GTerm.q u0f)) }, {}, {}, {}, {}, { v := some (.vptr (GTerm.q ua2)) }, {}, { r := some (.v (.bool uc1) []) }] [] [2, 3, 5, 52] [2, 3] [] ⟨[tP 2 2, tP 3 3, tI 5 u1m, tB 52 (!uc1)], [bC 2 (GTerm.q uq), bC 3 (GTerm.q v8)], []⟩ _ (by kernel_rfl) (fun X => by kernel_rfl) (.cons (at_obl (c := GTerm.c) (GTerm.c_eq u0f) GTerm.c_len h526) (.cons (len_ok 4 (GTerm.q u0f)) (.cons (at_obl (c := GTerm.c) (GTerm.c_eq ua2) GTerm.c_len h527) (.cons (len_ok 4 (GTerm.q ua2)) (.cons (ih_pspec_SameTerm h528) .nil))))) ?_
                    rcases oif h524 with ⟨h529, h524⟩ | ⟨h529, h524⟩
                    · refine Wc.cT h529 ?_
                      apply Wc.seq
                      refine Wc.r0 ⟨[tB 4 false], [], []⟩ ?_
                      refine Wc.ret ?_
                      obtain rfl := Option.some.inj h524
                      obtain rfl := Option.some.inj h
                      exact ⟨.inl rfl, by kernel_rfl, by kernel_rfl⟩
                    · refine Wc.cF h529 ?_
                      refine Wc.fx [] ⟨[tP 2 2, tP 3 3, tI 5 u1m], [bC 2 (GTerm.q uq), bC 3 (GTerm.q v8)], []⟩ ?_
                      refine Wc.skip ?_
                      refine Wc.r0 ⟨[tP 2 2, tP 3 3, tI 5 (wr.i64 (u1m + 1))], [bC 2 (GTerm.q uq), bC 3 (GTerm.q v8)], []⟩ ?_
                      exact ⟨_, Nat.lt_succ_self _, _, rfl, h524⟩
                  · refine Wc.cF h525 ?_
                    refine Wc.fx [] ⟨[], [], []⟩ ?_
                    refine Wc.exit ?_
                    obtain rfl := Option.some.inj h524
                    exact ⟨rfl, rfl⟩
              · rintro st ⟨rfl, rfl⟩
                apply Wc.seq
                refine Wc.r0 ⟨[tB 4 true], [], []⟩ ?_
                obtain rfl := Option.some.inj h; exact Wc.ret dn
theorem cspec_SameTerm {k : Nat} {uq : GTerm} {v8 : GTerm} {r : Bool} (h : pspec_SameTerm k uq v8 = some r) : FnO Try.prog 14 [.v (.agg (GTerm.q uq)) [], .v (.agg (GTerm.q v8)) []] (.v (.bool r) []) [] := (all_pspec_SameTerm k) h

def pimpl_Walked (k : Nat) (ua3 : GBinds) (ua4 : GTerm) : Option GTerm :=
  (pimpl_walked k ua3.gList ua4).bind fun ucl =>
  (pimpl_copyTerm k ucl).bind fun uc2 =>
  some uc2


def pspec_l04WalkedRaw (k : Nat) (ua5 : GBinds) (ua6 : GTerm) : Option GTerm :=
  (pspec_l04Walk k ua5.gList ua6).bind fun u2t =>
  some u2t
theorem cspec_l04WalkedRaw {k : Nat} {ua5 : GBinds} {ua6 : GTerm} {r : GTerm} (h : pspec_l04WalkedRaw k ua5 ua6 = some r) : FnO Try.prog 34 [.v (.agg [.sl (List.map GTerm.c ua5.gList)]) [], .v (.agg (GTerm.q ua6)) []] (.v (.agg (GTerm.q r)) []) [] := by
  refine FnO.o2 Try.func34 (rfl : Try.f34.body = some _) ?_
  intro w0 X0 Fin pv0 pb gt
  unfold pspec_l04WalkedRaw at h
  apply Wc.seq
  refine Wc.r0 ⟨[tP 2 2, tP 3 3, tP 4 4], [bC 2 [.sl (List.map GTerm.c ua5.gList)], bC 3 (GTerm.q ua6), (4, .cells GTerm.z [(3, .app 26)])], []⟩ ?_
  apply Wc.seq
  obtain ⟨u2t, h534, h⟩ := obind h
  refine Wc.r2 [{}, {}, {}, { r := some (.v (.agg (GTerm.q u2t)) []) }] ⟨[tP 4 4], [bC 4 (GTerm.q u2t)], []⟩ (.cons (cspec_l04Walk h534) .nil) ?_
  obtain rfl := Option.some.inj h; exact Wc.ret dn

def pspec_Walked (k : Nat) (ua7 : GBinds) (ua8 : GTerm) : Option GTerm :=
  (pspec_l04WalkedRaw k ua7 ua8).bind fun u2u =>
  (pspec_l34Term k u2u).bind fun uc3 =>
  some uc3
theorem cspec_Walked {k : Nat} {ua7 : GBinds} {ua8 : GTerm} {r : GTerm} (h : pspec_Walked k ua7 ua8 = some r) : FnO Try.prog 16 [.v (.agg [.sl (List.map GTerm.c ua7.gList)]) [], .v (.agg (GTerm.q ua8)) []] (.v (.agg (GTerm.q r)) [(3, .app 26)]) [] := by
  refine FnO.o2 Try.func16 (rfl : Try.f16.body = some _) ?_
  intro w0 X0 Fin pv0 pb gt
  unfold pspec_Walked at h
  apply Wc.seq
  refine Wc.r0 ⟨[tP 2 2, tP 3 3, tP 4 4], [bC 2 [.sl (List.map GTerm.c ua7.gList)], bC 3 (GTerm.q ua8), (4, .cells GTerm.z [(3, .app 26)])], []⟩ ?_
  apply Wc.seq
  obtain ⟨u2u, h537, h⟩ := obind h
  refine Wc.r2 [{}, {}, { r := some (.v (.agg (GTerm.q u2u)) []) }] ⟨[tP 4 4, tP 5 5], [(4, .cells GTerm.z [(3, .app 26)]), bC 5 (GTerm.q u2u)], []⟩ (.cons (cspec_l04WalkedRaw h537) .nil) ?_
  apply Wc.seq
  obtain ⟨uc3, h538, h⟩ := obind h
  refine Wc.r2 [{}, { r := some (.v (.agg (GTerm.q uc3)) [(3, .app 26)]) }, { tk := [10] }] ⟨[tP 4 4], [(4, .cells (GTerm.q uc3) [(3, .app 26)])], []⟩ (.cons (cspec_l34Term h538) .nil) ?_
  obtain rfl := Option.some.inj h; exact Wc.ret dn

def plaws_sameBinds_L1 (k : Nat) (z5 : GBinds) (zm : GBinds) : Nat → Int → Option (Out Bool Unit)
  | 0, _ => none
  | m + 1, u1n =>
    if (decide (u1n < (z5.gList.length : Int))) = true then
      (at' z5.gList u1n).bind fun ua9 =>
      (at' zm.gList u1n).bind fun uaa =>
      (pspec_SameTerm k ua9 uaa).bind fun uc4 =>
      if (!uc4) = true then
        some (.ret false)
      else
        plaws_sameBinds_L1 k z5 zm m (wr.i64 (u1n + 1))
    else
      some (.done ())
def plaws_sameBinds (k : Nat) (z5 : GBinds) (zm : GBinds) : Option Bool :=
  if ((z5.gList.length : Int) != (zm.gList.length : Int)) = true then
    some false
  else
    (plaws_sameBinds_L1 k z5 zm k 0).bind fun out1 => match out1 with
    | .ret r => some r
    | .done () =>
      some true
theorem claws_sameBinds {k : Nat} {z5 : GBinds} {zm : GBinds} {r : Bool} (h : plaws_sameBinds k z5 zm = some r) : FnO Try.prog 17 [.v (.agg [.sl (List.map GTerm.c z5.gList)]) [], .v (.agg [.sl (List.map GTerm.c zm.gList)]) []] (.v (.bool r) []) [] := by
  refine FnO.o2 Try.func17 (rfl : Try.f17.body = some _) ?_
  intro w0 X0 Fin pv0 pb gt
  unfold plaws_sameBinds at h
  apply Wc.seq
  refine Wc.r0 ⟨[tP 2 2, tP 3 3], [bC 2 [.sl (List.map GTerm.c z5.gList)], bC 3 [.sl (List.map GTerm.c zm.gList)]], []⟩ ?_
  apply Wc.seq
  apply Wc.seq
  refine Wc.r2 [{}, {}, { v := some (aI (z5.gList.length : Int)) }, {}, {}, { v := some (aI (zm.gList.length : Int)) }] ⟨[tP 2 2, tP 3 3, tB 12 ((z5.gList.length : Int) != (zm.gList.length : Int))], [bC 2 [.sl (List.map GTerm.c z5.gList)], bC 3 [.sl (List.map GTerm.c zm.gList)]], []⟩ (.cons (len_obl GTerm.c z5.gList) (.cons (len_obl GTerm.c zm.gList) .nil)) ?_
  rcases oif h with ⟨h539, h⟩ | ⟨h539, h⟩
  · refine Wc.cT h539 ?_
    apply Wc.seq
    refine Wc.r0 ⟨[tB 4 false], [], []⟩ ?_
    obtain rfl := Option.some.inj h; exact Wc.ret dn
  · refine Wc.cF h539 ?_
    refine Wc.fx [] ⟨[tP 2 2, tP 3 3], [bC 2 [.sl (List.map GTerm.c z5.gList)], bC 3 [.sl (List.map GTerm.c zm.gList)]], []⟩ ?_
    refine Wc.skip ?_
    apply Wc.seq
    apply Wc.seq
    refine Wc.r0 ⟨[tP 2 2, tP 3 3, tI 5 0], [bC 2 [.sl (List.map GTerm.c z5.gList)], bC 3 [.sl (List.map GTerm.c zm.gList)]], []⟩ ?_
    obtain ⟨out1, h540, h⟩ := obind h
    refine Wc.lastJ (fun st => out1 = .done () ∧ st = ⟨[], [], []⟩) ?_ ?_
    · refine Wc.block ?_
      refine Wc.loop (fun m st => ∃ (u1n : Int), st = ⟨[tP 2 2, tP 3 3, tI 5 u1n], [bC 2 [.sl (List.map GTerm.c z5.gList)], bC 3 [.sl (List.map GTerm.c zm.gList)]], []⟩ ∧ plaws_sameBinds_L1 k z5 zm m u1n = some out1) ?_ k ⟨_, rfl, h540⟩
      rintro m st ⟨u1n, rfl, h540⟩
      cases m with
      | zero => exact (onone h540).elim
      | succ m =>
        apply Wc.seq
        apply Wc.seq
        refine Wc.r2 [{}, {}, {}, { v := some (aI (z5.gList.length : Int)) }] ⟨[tP 2 2, tP 3 3, tI 5 u1n, tB 17 (decide (u1n < (z5.gList.length : Int)))], [bC 2 [.sl (List.map GTerm.c z5.gList)], bC 3 [.sl (List.map GTerm.c zm.gList)]], []⟩ (.cons (len_obl GTerm.c z5.gList) .nil) ?_
        rcases oif h540 with ⟨h541, h540⟩ | ⟨h541, h540⟩
        · refine Wc.cT h541 ?_
          refine Wc.fx [] ⟨[tP 2 2, tP 3 3, tI 5 u1n], [bC 2 [.sl (List.map GTerm.c z5.gList)], bC 3 [.sl (List.map GTerm.c zm.gList)]], []⟩ ?_
          refine Wc.skip ?_
          apply Wc.seq
          refine Wc.block ?_
          apply Wc.seq
          obtain ⟨ua9, h542, h540⟩ := obind h540
          obtain ⟨uaa, h543, h540⟩ := obind h540
          obtain ⟨uc4, h544, h540⟩ := obind h540
          refine Wc.draw hmix [{}, {}, {}, { v := some (.vptr (GTerm.q ua9)) }, {}, {}, {}, {}, { v := some (.vptr (GTerm.q uaa)) }, {}, { r := some (.v (.bool uc4) []) }] [] [2, 3, 5, 31] [2, 3] [] ⟨[tP 2 2, tP 3 3, tI 5 u1n, tB 31 (!uc4)], [bC 2 [.sl (List.map GTerm.c z5.gList)], bC 3 [.sl (List.map GTerm.c zm.gList)]], []⟩ _ (by kernel_rfl) (fun X => by kernel_rfl) (.cons (at_obl (c := GTerm.c) (GTerm.c_eq ua9) GTerm.c_len h542) (.cons (len_ok 4 (GTerm.q ua9)) (.cons (at_obl (c := GTerm.c) (GTerm.c_eq uaa) GTerm.c_len h543) (.cons (len_ok 4 (GTerm.q uaa)) (.cons (cspec_SameTerm h544) .nil))))) ?_
          rcases oif h540 with ⟨h545, h540⟩ | ⟨h545, h540⟩
          · refine Wc.cT h545 ?_
            apply Wc.seq
            refine Wc.r0 ⟨[tB 4 false], [], []⟩ ?_
            refine Wc.ret ?_
            obtain rfl := Option.some.inj h540
            obtain rfl := Option.some.inj h
            exact ⟨.inl rfl, by kernel_rfl, by kernel_rfl⟩
          · refine Wc.cF h545 ?_
            refine Wc.fx [] ⟨[tP 2 2, tP 3 3, tI 5 u1n], [bC 2 [.sl (List.map GTerm.c z5.gList)], bC 3 [.sl (List.map GTerm.c zm.gList)]], []⟩ ?_
            refine Wc.skip ?_
            refine Wc.r0 ⟨[tP 2 2, tP 3 3, tI 5 (wr.i64 (u1n + 1))], [bC 2 [.sl (List.map GTerm.c z5.gList)], bC 3 [.sl (List.map GTerm.c zm.gList)]], []⟩ ?_
            exact ⟨_, Nat.lt_succ_self _, _, rfl, h540⟩
        · refine Wc.cF h541 ?_
          refine Wc.fx [] ⟨[], [], []⟩ ?_
          refine Wc.exit ?_
          obtain rfl := Option.some.inj h540
          exact ⟨rfl, rfl⟩
    · rintro st ⟨rfl, rfl⟩
      apply Wc.seq
      refine Wc.r0 ⟨[tB 4 true], [], []⟩ ?_
      obtain rfl := Option.some.inj h; exact Wc.ret dn

def pimpl_BindsNew_d (k : Nat) (vz : Int) : Option GBinds :=
  if 0 ≤ (if 5000 < (if 0 > vz then 0 else vz) then 5000 else (if 0 > vz then 0 else vz)) ∧ (if 5000 < (if 0 > vz then 0 else vz) then 5000 else (if 0 > vz then 0 else vz)) ≤ 1073741824 then
    some (GBinds.mk (List.replicate ((if 5000 < (if 0 > vz then 0 else vz) then 5000 else (if 0 > vz then 0 else vz))).toNat (GTerm.mk 0 (bs []) 0 [])))
  else none
theorem cimpl_BindsNew_d {k : Nat} {vz : Int} {r : GBinds} (h : pimpl_BindsNew_d k vz = some r) : FnO Try.prog 6 [.v (aI vz) []] (.v (.agg [.slx]) (GUnifier.h0_26t r.gList)) [] := by
  refine FnO.o2 Try.func6 (rfl : Try.f6.body = some _) ?_
  intro w0 X0 Fin pv0 pb gt
  unfold pimpl_BindsNew_d at h
  apply Wc.seq
  refine Wc.r0 ⟨[tI 0 vz, tP 2 2], [(2, .cells GBinds.z [(0, .app 26)])], []⟩ ?_
  apply Wc.seq
  obtain ⟨h550, h⟩ := oguard h
  refine Wc.r2 [{}, {}, {}, { c := some (List.map GTerm.c (List.replicate ((if 5000 < (if 0 > vz then 0 else vz) then 5000 else (if 0 > vz then 0 else vz))).toNat (GTerm.mk 0 (bs []) 0 []))) }, { tk := [6] }, { tk := [7] }] ⟨[tP 2 2], [(2, .cells [.slx] [(0, .ex 26 true (List.map GTerm.c (List.replicate ((if 5000 < (if 0 > vz then 0 else vz) then 5000 else (if 0 > vz then 0 else vz))).toNat (GTerm.mk 0 (bs []) 0 []))))])], []⟩ (.cons (rep_re (c := GTerm.c) (z := (GTerm.mk 0 (bs []) 0 [])) (GTerm.c_eq (GTerm.mk 0 (bs []) 0 [])) ((if 5000 < (if 0 > vz then 0 else vz) then 5000 else (if 0 > vz then 0 else vz))).toNat) (.cons (ms_obl h550) .nil)) ?_
  obtain rfl := Option.some.inj h; exact Wc.ret dn

def pimpl_Unify_d_J1 (k : Nat) (u0t : GBinds) (uab : Bool) (u3g : GUnifier) : Option (GBinds × Bool) :=
  if uab = true then
    (pimpl_copyTerms_d k u0t.gList).bind fun uc5 =>
    some (GBinds.mk uc5, false)
  else
    (pimpl_copyTerms_d k u3g.gList).bind fun uc6 =>
    some (GBinds.mk uc6, true)
def pimpl_Unify_d (k : Nat) (u0t : GBinds) (u58 : GTerm) (u59 : GTerm) : Option (GBinds × Bool) :=
  (pimpl_copyTerms_d k u0t.gList).bind fun u4k =>
  (pimpl_TermOk k u58).bind fun uac =>
  if (!uac) = true then
    pimpl_Unify_d_J1 k u0t true (GUnifier.mk u4k [] 0)
  else
    (pimpl_TermOk k u59).bind fun uc7 =>
    if (!uc7) = true then
      pimpl_Unify_d_J1 k u0t true (GUnifier.mk u4k [] 0)
    else
      (pimpl_unifier_unify k (GUnifier.mk u4k [] 0) u58 u59).bind fun u2x =>
      pimpl_Unify_d_J1 k u0t (!u2x.2) u2x.1
theorem cimpl_Unify_d {k : Nat} {u0t : GBinds} {u58 : GTerm} {u59 : GTerm} {r : GBinds × Bool} (h : pimpl_Unify_d k u0t u58 u59 = some r) : FnO Try.prog 8 [.v (.agg [.sl (List.map GTerm.c u0t.gList)]) [], .v (.agg (GTerm.q u58)) [], .v (.agg (GTerm.q u59)) []] (.v (.tup [.agg [.slx], .bool r.2]) (GUnifier.h0_26t r.1.gList)) [] := by
  refine FnO.o2 Try.func8 (rfl : Try.f8.body = some _) ?_
  intro w0 X0 Fin pv0 pb gt
  unfold pimpl_Unify_d at h
  apply Wc.seq
  refine Wc.r0 ⟨[tP 3 3, tP 4 4, tP 5 5, tP 6 6], [bC 3 [.sl (List.map GTerm.c u0t.gList)], bC 4 (GTerm.q u58), bC 5 (GTerm.q u59), (6, .cells GBinds.z [(0, .app 26)])], []⟩ ?_
  apply Wc.seq
  obtain ⟨u4k, h560, h⟩ := obind h
  refine Wc.r3 [{}, {}, { r := some (.v (.slx) [(0, .ex 26 true (List.map GTerm.c u4k))]) }, { tk := [11] }, { tk := [12] }] [.so 13] ⟨[tP 3 3, tP 4 4, tP 5 5, tP 6 6, tP 8 13], [bC 3 [.sl (List.map GTerm.c u0t.gList)], bC 4 (GTerm.q u58), bC 5 (GTerm.q u59), (6, .cells GBinds.z [(0, .app 26)]), (13, .cells [.slx, .sl (List.map cI.i64 []), aI 0] [(0, .ex 26 true (List.map GTerm.c u4k)), (1, .app 3)])], []⟩ (.cons (cimpl_copyTerms_d h560) .nil) ?_
  apply Wc.seq
  refine Wc.seqJ (fun st => ∃ (uab : Bool) (u3g : GUnifier), st = ⟨[tP 3 3, tP 6 6, tP 8 13, tB 28 uab], [bC 3 [.sl (List.map GTerm.c u0t.gList)], (6, .cells [.slx] [(0, .ex 26 true (List.map GTerm.c []))]), (13, .cells [.slx, .slx, aI u3g.gPairs] [(0, .ex 26 false (List.map GTerm.c u3g.gList)), (1, .ex 3 false (List.map cI.i64 u3g.gBound))])], []⟩ ∧ pimpl_Unify_d_J1 k u0t uab u3g = some r) ?_ ?_
  · obtain ⟨uac, h564, h⟩ := obind h
    rcases oif h with ⟨h565, h⟩ | ⟨h565, h⟩
    · refine Wc.r3 [{}, { r := some (.v (.bool uac) []) }, {}, { re := some (.bool true) }] [.ow (.b 6 0) true, .ag (.b 13 0), .ow (.b 13 1) false] ⟨[tP 3 3, tP 6 6, tP 8 13, tB 28 true], [bC 3 [.sl (List.map GTerm.c u0t.gList)], (6, .cells [.slx] [(0, .ex 26 true (List.map GTerm.c []))]), (13, .cells [.slx, .slx, aI 0] [(0, .ex 26 false (List.map GTerm.c u4k)), (1, .ex 3 false (List.map cI.i64 []))])], []⟩ (.cons (cimpl_TermOk h564) (.cons (congrArg AV.bool h565) .nil)) ?_
      exact ⟨_, _, rfl, h⟩
    · obtain ⟨uc7, h566, h⟩ := obind h
      rcases oif h with ⟨h567, h⟩ | ⟨h567, h⟩
      · refine Wc.r3 [{}, { r := some (.v (.bool uac) []) }, {}, { re := some (.bool false) }, {}, { r := some (.v (.bool uc7) []) }, {}, {}, { re := some (.bool true) }] [.ow (.b 6 0) true, .ag (.b 13 0), .ow (.b 13 1) false] ⟨[tP 3 3, tP 6 6, tP 8 13, tB 28 true], [bC 3 [.sl (List.map GTerm.c u0t.gList)], (6, .cells [.slx] [(0, .ex 26 true (List.map GTerm.c []))]), (13, .cells [.slx, .slx, aI 0] [(0, .ex 26 false (List.map GTerm.c u4k)), (1, .ex 3 false (List.map cI.i64 []))])], []⟩ (.cons (cimpl_TermOk h564) (.cons (congrArg AV.bool h565) (.cons (cimpl_TermOk h566) (.cons (congrArg AV.bool h567) .nil)))) ?_
        exact ⟨_, _, rfl, h⟩
      · obtain ⟨u2x, h568, h⟩ := obind h
        refine Wc.r3 [{}, { r := some (.v (.bool uac) []) }, {}, { re := some (.bool false) }, {}, { r := some (.v (.bool uc7) []) }, {}, {}, { re := some (.bool false) }, {}, {}, {}, { r := some (.v (.bool u2x.2) []), outs := [(0, .p [.slx, .slx, aI u2x.1.gPairs] [(0, .ex 26 false (List.map GTerm.c u2x.1.gList)), (1, .ex 3 false (List.map cI.i64 u2x.1.gBound))])], fx := [.ag (.b 13 0), .ow (.b 13 1) false] }] [.ow (.b 6 0) true] ⟨[tP 3 3, tP 6 6, tP 8 13, tB 28 (!u2x.2)], [bC 3 [.sl (List.map GTerm.c u0t.gList)], (6, .cells [.slx] [(0, .ex 26 true (List.map GTerm.c []))]), (13, .cells [.slx, .slx, aI u2x.1.gPairs] [(0, .ex 26 false (List.map GTerm.c u2x.1.gList)), (1, .ex 3 false (List.map cI.i64 u2x.1.gBound))])], []⟩ (.cons (cimpl_TermOk h564) (.cons (congrArg AV.bool h565) (.cons (cimpl_TermOk h566) (.cons (congrArg AV.bool h567) (.cons (unraw_O (fun hv => cimpl_unifier_unify (hv0 := hv) h568)) .nil))))) ?_
        exact ⟨_, _, rfl, h⟩
  · rintro st ⟨uab, u3g, rfl, h⟩
    rcases oif h with ⟨h561, h⟩ | ⟨h561, h⟩
    · refine Wc.cT h561 ?_
      apply Wc.seq
      obtain ⟨uc5, h562, h⟩ := obind h
      refine Wc.r2 [{}, {}, { r := some (.v (.slx) [(0, .ex 26 true (List.map GTerm.c uc5))]) }, { tk := [31] }, { tk := [32] }] ⟨[tP 6 6, tB 7 false], [(6, .cells [.slx] [(0, .ex 26 true (List.map GTerm.c uc5))])], []⟩ (.cons (cimpl_copyTerms_d h562) .nil) ?_
      obtain rfl := Option.some.inj h; exact Wc.ret dn
    · refine Wc.cF h561 ?_
      refine Wc.fx [] ⟨[tP 6 6, tP 8 13], [(6, .cells [.slx] [(0, .ex 26 true (List.map GTerm.c []))]), (13, .cells [.slx, .slx, aI u3g.gPairs] [(0, .ex 26 false (List.map GTerm.c u3g.gList)), (1, .ex 3 false (List.map cI.i64 u3g.gBound))])], []⟩ ?_
      refine Wc.skip ?_
      apply Wc.seq
      obtain ⟨uc6, h563, h⟩ := obind h
      refine Wc.r2 [{}, {}, {}, {}, { r := some (.v (.slx) [(0, .ex 26 true (List.map GTerm.c uc6))]) }, { tk := [37] }, { tk := [38] }] ⟨[tP 6 6, tB 7 true], [(6, .cells [.slx] [(0, .ex 26 true (List.map GTerm.c uc6))])], []⟩ (.cons (cimpl_copyTerms_d h563) .nil) ?_
      obtain rfl := Option.some.inj h; exact Wc.ret dn

def pimpl_Filled_d (k : Nat) (uad : GBinds) (uae : GTerm) : Option (GTerm × Bool) :=
  (pimpl_filled_d k uad.gList uae).bind fun u42 =>
  some (u42.1, u42.2)
theorem cimpl_Filled_d {k : Nat} {uad : GBinds} {uae : GTerm} {r : GTerm × Bool} (h : pimpl_Filled_d k uad uae = some r) : FnO Try.prog 9 [.v (.agg [.sl (List.map GTerm.c uad.gList)]) [], .v (.agg (GTerm.q uae)) []] (.v (.tup [.agg (GTerm.qx r.1), .bool r.2]) (GTerm.h3_26t r.1)) [] := by
  refine FnO.o2 Try.func9 (rfl : Try.f9.body = some _) ?_
  intro w0 X0 Fin pv0 pb gt
  unfold pimpl_Filled_d at h
  apply Wc.seq
  refine Wc.r0 ⟨[tP 2 2, tP 3 3, tP 4 4], [bC 2 [.sl (List.map GTerm.c uad.gList)], bC 3 (GTerm.q uae), (4, .cells GTerm.z [(3, .app 26)])], []⟩ ?_
  apply Wc.seq
  obtain ⟨u42, h553, h⟩ := obind h
  refine Wc.r2 [{}, {}, {}, { r := some (.v (.tup [.agg (GTerm.qx u42.1), .bool u42.2]) (GTerm.h3_26t u42.1)) }, { tk := [9] }, {}, { tk := [10] }] ⟨[tP 4 4, tB 5 u42.2], [(4, .cells (GTerm.qx u42.1) (GTerm.h3_26t u42.1))], []⟩ (.cons (cimpl_filled_d h553) .nil) ?_
  obtain rfl := Option.some.inj h; exact Wc.ret dn

def pimpl_Walked_d (k : Nat) (u43 : GBinds) (uaf : GTerm) : Option GTerm :=
  (pimpl_walked k u43.gList uaf).bind fun ucm =>
  (pimpl_copyTerm_d k ucm).bind fun u7n =>
  some u7n
theorem cimpl_Walked_d {k : Nat} {u43 : GBinds} {uaf : GTerm} {r : GTerm} (h : pimpl_Walked_d k u43 uaf = some r) : FnO Try.prog 15 [.v (.agg [.sl (List.map GTerm.c u43.gList)]) [], .v (.agg (GTerm.q uaf)) []] (.v (.agg (GTerm.qx r)) (GTerm.h3_26t r)) [] := by
  refine FnO.o2 Try.func15 (rfl : Try.f15.body = some _) ?_
  intro w0 X0 Fin pv0 pb gt
  unfold pimpl_Walked_d at h
  apply Wc.seq
  refine Wc.r0 ⟨[tP 2 2, tP 3 3, tP 4 4], [bC 2 [.sl (List.map GTerm.c u43.gList)], bC 3 (GTerm.q uaf), (4, .cells GTerm.z [(3, .app 26)])], []⟩ ?_
  apply Wc.seq
  obtain ⟨ucm, h567, h⟩ := obind h
  obtain ⟨u7n, h568, h⟩ := obind h
  refine Wc.r2 [{}, {}, {}, { r := some (.v (.agg (GTerm.q ucm)) []) }, { r := some (.v (.agg (GTerm.qx u7n)) (GTerm.h3_26t u7n)) }, { tk := [9] }] ⟨[tP 4 4], [(4, .cells (GTerm.qx u7n) (GTerm.h3_26t u7n))], []⟩ (.cons (cimpl_walked h567) (.cons (cimpl_copyTerm_d h568) .nil)) ?_
  obtain rfl := Option.some.inj h; exact Wc.ret dn

def plaws_FnUnifiesMost_J1 (k : Nat) (uy : List Int) (vp : GBinds × Bool) (u7 : GTerm × Bool) (ut : GTerm × GTerm × GTerm) : Option Bool :=
  (pspec_DrawFilled k uy).bind fun zz =>
  (pimpl_Filled_d k zz.1 zz.2).bind fun u19 =>
  (pspec_Filled k zz.1 zz.2).bind fun u44 =>
  (pspec_DrawBindsNew k uy).bind fun uag =>
  if vp.2 = true then
    if u7.2 = true then
      (pspec_Variant k u7.1 ut.1).bind fun u5a =>
      if u5a = true then
        if (u19.2 == u44.2) = true then
          (pspec_SameTerm k u19.1 u44.1).bind fun uah =>
          if uah = true then
            (pimpl_Walked_d k zz.1 zz.2).bind fun u7o =>
            (pspec_Walked k zz.1 zz.2).bind fun uc8 =>
            (pspec_SameTerm k u7o uc8).bind fun uc9 =>
            if uc9 = true then
              (pimpl_BindsNew_d k uag).bind fun ucn =>
              (pspec_BindsNew k uag).bind fun u43 =>
              (plaws_sameBinds k ucn u43).bind fun uca =>
              some uca
            else
              some false
          else
            some false
        else
          some false
      else
        some false
    else
      some false
  else
    some false
def plaws_FnUnifiesMost (k : Nat) (uy : List Int) : Option Bool :=
  (plaws_big k uy).bind fun ucb =>
  if ucb = true then
    some true
  else
    (pspec_DrawTerms k uy).bind fun ut =>
    (pimpl_BindsNew_d k 20).bind fun u2j =>
    (pspec_Shifted k ut.1 10).bind fun u24 =>
    (pimpl_Unify_d k u2j u24 ut.1).bind fun vp =>
    (pimpl_Filled_d k vp.1 u24).bind fun u7 =>
    (pimpl_Unify_d k u2j ut.1 ut.2.1).bind fun u45 =>
    if u45.2 = true then
      (pimpl_Filled_d k u45.1 ut.1).bind fun u0u =>
      (pimpl_Unify_d k u2j u24 u0u.1).bind fun u4l =>
      (pimpl_Filled_d k u4l.1 u24).bind fun u46 =>
      if u0u.2 = true then
        if (!u4l.2) = true then
          some false
        else
          if (!u46.2) = true then
            some false
          else
            (pspec_Variant k u46.1 u0u.1).bind fun ucc =>
            if (!ucc) = true then
              some false
            else
              plaws_FnUnifiesMost_J1 k uy vp u7 ut
      else
        plaws_FnUnifiesMost_J1 k uy vp u7 ut
    else
      plaws_FnUnifiesMost_J1 k uy vp u7 ut
set_option maxHeartbeats 4000000 in
theorem claws_FnUnifiesMost {k : Nat} {uy : List Int} {r : Bool} (h : plaws_FnUnifiesMost k uy = some r) : FnO Try.prog 3 [.v (.sl (List.map cI.u8 uy)) []] (.v (.bool r) []) [] := by
  refine FnO.o2 Try.func3 (rfl : Try.f3.body = some _) ?_
  intro w0 X0 Fin pv0 pb gt
  unfold plaws_FnUnifiesMost at h
  apply Wc.seq
  refine Wc.r0 ⟨[tV 0 (.sl (List.map cI.u8 uy))], [], []⟩ ?_
  apply Wc.seq
  apply Wc.seq
  obtain ⟨ucb, h546, h⟩ := obind h
  refine Wc.r2 [{}, { r := some (.v (.bool ucb) []) }] ⟨[tV 0 (.sl (List.map cI.u8 uy)), tB 28 ucb], [], []⟩ (.cons (claws_big h546) .nil) ?_
  rcases oif h with ⟨h547, h⟩ | ⟨h547, h⟩
  · refine Wc.cT h547 ?_
    apply Wc.seq
    refine Wc.r0 ⟨[tB 2 true], [], []⟩ ?_
    obtain rfl := Option.some.inj h; exact Wc.ret dn
  · refine Wc.cF h547 ?_
    refine Wc.fx [] ⟨[tV 0 (.sl (List.map cI.u8 uy))], [], []⟩ ?_
    refine Wc.skip ?_
    apply Wc.seq
    obtain ⟨ut, h548, h⟩ := obind h
    refine Wc.r2 [{}, { r := some (.v (.tup [.agg (GTerm.q ut.1), .agg (GTerm.q ut.2.1), .agg (GTerm.q ut.2.2)]) [(3, .app 26)]) }, { tk := [31] }, { tk := [29] }, {}, {}, {}, {}, {}, { tk := [32] }] ⟨[tV 0 (.sl (List.map cI.u8 uy)), tP 3 3, tP 4 4], [(3, .cells (GTerm.q ut.1) [(3, .app 26)]), bC 4 (GTerm.q ut.2.1)], []⟩ (.cons (cspec_DrawTerms h548) .nil) ?_
    apply Wc.seq
    obtain ⟨u2j, h549, h⟩ := obind h
    refine Wc.r2 [{ r := some (.v (.agg [.slx]) (GUnifier.h0_26t u2j.gList)) }, {}, { tk := [35] }] ⟨[tV 0 (.sl (List.map cI.u8 uy)), tP 3 3, tP 4 4, tP 6 6], [(3, .cells (GTerm.q ut.1) [(3, .app 26)]), bC 4 (GTerm.q ut.2.1), (6, .cells [.slx] (GUnifier.h0_26t u2j.gList))], []⟩ (.cons (cimpl_BindsNew_d h549) .nil) ?_
    apply Wc.seq
    obtain ⟨u24, h550, h⟩ := obind h
    refine Wc.r2 [{}, { r := some (.v (.agg (GTerm.q u24)) [(3, .app 26)]) }, {}, { tk := [37] }] ⟨[tV 0 (.sl (List.map cI.u8 uy)), tP 3 3, tP 4 4, tP 6 6, tP 7 7], [(3, .cells (GTerm.q ut.1) [(3, .app 26)]), bC 4 (GTerm.q ut.2.1), (6, .cells [.slx] (GUnifier.h0_26t u2j.gList)), (7, .cells (GTerm.q u24) [(3, .app 26)])], []⟩ (.cons (cspec_Shifted h550) .nil) ?_
    apply Wc.seq
    obtain ⟨vp, h551, h⟩ := obind h
    refine Wc.r2 [{}, {}, {}, { r := some (.v (.tup [.agg [.slx], .bool vp.2]) (GUnifier.h0_26t vp.1.gList)) }, { tk := [42] }, { tk := [38] }, {}, {}, { tk := [43] }] ⟨[tV 0 (.sl (List.map cI.u8 uy)), tP 3 3, tP 4 4, tP 6 6, tP 7 7, tP 8 8, tB 9 vp.2], [(3, .cells (GTerm.q ut.1) [(3, .app 26)]), bC 4 (GTerm.q ut.2.1), (6, .cells [.slx] (GUnifier.h0_26t u2j.gList)), (7, .cells (GTerm.q u24) [(3, .app 26)]), (8, .cells [.slx] (GUnifier.h0_26t vp.1.gList))], []⟩ (.cons (cimpl_Unify_d h551) .nil) ?_
    apply Wc.seq
    obtain ⟨u7, h552, h⟩ := obind h
    refine Wc.r2 [{}, {}, { r := some (.v (.tup [.agg (GTerm.qx u7.1), .bool u7.2]) (GTerm.h3_26t u7.1)) }, { tk := [48] }, { tk := [45] }, {}, {}, { tk := [49] }] ⟨[tV 0 (.sl (List.map cI.u8 uy)), tP 3 3, tP 4 4, tP 6 6, tP 7 7, tB 9 vp.2, tP 10 10, tB 11 u7.2], [(3, .cells (GTerm.q ut.1) [(3, .app 26)]), bC 4 (GTerm.q ut.2.1), (6, .cells [.slx] (GUnifier.h0_26t u2j.gList)), (7, .cells (GTerm.q u24) [(3, .app 26)]), (10, .cells (GTerm.qx u7.1) (GTerm.h3_26t u7.1))], []⟩ (.cons (cimpl_Filled_d h552) .nil) ?_
    apply Wc.seq
    obtain ⟨u45, h553, h⟩ := obind h
    refine Wc.r2 [{}, {}, {}, { r := some (.v (.tup [.agg [.slx], .bool u45.2]) (GUnifier.h0_26t u45.1.gList)) }, { tk := [55] }, { tk := [51] }, {}, {}, { tk := [56] }] ⟨[tV 0 (.sl (List.map cI.u8 uy)), tP 3 3, tP 6 6, tP 7 7, tB 9 vp.2, tP 10 10, tB 11 u7.2, tP 12 12, tB 13 u45.2], [(3, .cells (GTerm.q ut.1) [(3, .app 26)]), (6, .cells [.slx] (GUnifier.h0_26t u2j.gList)), (7, .cells (GTerm.q u24) [(3, .app 26)]), (10, .cells (GTerm.qx u7.1) (GTerm.h3_26t u7.1)), (12, .cells [.slx] (GUnifier.h0_26t u45.1.gList))], []⟩ (.cons (cimpl_Unify_d h553) .nil) ?_
    refine Wc.seqJ (fun st => st = ⟨[tV 0 (.sl (List.map cI.u8 uy)), tP 3 3, tB 9 vp.2, tP 10 10, tB 11 u7.2], [(3, .cells (GTerm.q ut.1) [(3, .app 26)]), (10, .cells (GTerm.qx u7.1) (GTerm.h3_26t u7.1))], []⟩ ∧ plaws_FnUnifiesMost_J1 k uy vp u7 ut = some r) ?_ ?_
    · apply Wc.seq
      refine Wc.r0 ⟨[tV 0 (.sl (List.map cI.u8 uy)), tP 3 3, tP 6 6, tP 7 7, tB 9 vp.2, tP 10 10, tB 11 u7.2, tP 12 12, tB 58 u45.2], [(3, .cells (GTerm.q ut.1) [(3, .app 26)]), (6, .cells [.slx] (GUnifier.h0_26t u2j.gList)), (7, .cells (GTerm.q u24) [(3, .app 26)]), (10, .cells (GTerm.qx u7.1) (GTerm.h3_26t u7.1)), (12, .cells [.slx] (GUnifier.h0_26t u45.1.gList))], []⟩ ?_
      rcases oif h with ⟨h572, h⟩ | ⟨h572, h⟩
      · refine Wc.cT h572 ?_
        apply Wc.seq
        obtain ⟨u0u, h573, h⟩ := obind h
        refine Wc.r2 [{}, {}, { r := some (.v (.tup [.agg (GTerm.qx u0u.1), .bool u0u.2]) (GTerm.h3_26t u0u.1)) }, { tk := [62] }, { tk := [59] }, {}, {}, { tk := [63] }] ⟨[tV 0 (.sl (List.map cI.u8 uy)), tP 3 3, tP 6 6, tP 7 7, tB 9 vp.2, tP 10 10, tB 11 u7.2, tP 14 14, tB 15 u0u.2], [(3, .cells (GTerm.q ut.1) [(3, .app 26)]), (6, .cells [.slx] (GUnifier.h0_26t u2j.gList)), (7, .cells (GTerm.q u24) [(3, .app 26)]), (10, .cells (GTerm.qx u7.1) (GTerm.h3_26t u7.1)), (14, .cells (GTerm.qx u0u.1) (GTerm.h3_26t u0u.1))], []⟩ (.cons (cimpl_Filled_d h573) .nil) ?_
        apply Wc.seq
        obtain ⟨u4l, h574, h⟩ := obind h
        refine Wc.r2 [{}, {}, {}, { r := some (.v (.tup [.agg [.slx], .bool u4l.2]) (GUnifier.h0_26t u4l.1.gList)) }, { tk := [69] }, { tk := [65] }, {}, {}, { tk := [70] }] ⟨[tV 0 (.sl (List.map cI.u8 uy)), tP 3 3, tP 7 7, tB 9 vp.2, tP 10 10, tB 11 u7.2, tP 14 14, tB 15 u0u.2, tP 16 16, tB 17 u4l.2], [(3, .cells (GTerm.q ut.1) [(3, .app 26)]), (7, .cells (GTerm.q u24) [(3, .app 26)]), (10, .cells (GTerm.qx u7.1) (GTerm.h3_26t u7.1)), (14, .cells (GTerm.qx u0u.1) (GTerm.h3_26t u0u.1)), (16, .cells [.slx] (GUnifier.h0_26t u4l.1.gList))], []⟩ (.cons (cimpl_Unify_d h574) .nil) ?_
        apply Wc.seq
        obtain ⟨u46, h575, h⟩ := obind h
        refine Wc.r2 [{}, {}, { r := some (.v (.tup [.agg (GTerm.qx u46.1), .bool u46.2]) (GTerm.h3_26t u46.1)) }, { tk := [75] }, { tk := [72] }, {}, {}, { tk := [76] }] ⟨[tV 0 (.sl (List.map cI.u8 uy)), tP 3 3, tB 9 vp.2, tP 10 10, tB 11 u7.2, tP 14 14, tB 15 u0u.2, tB 17 u4l.2, tP 18 18, tB 19 u46.2], [(3, .cells (GTerm.q ut.1) [(3, .app 26)]), (10, .cells (GTerm.qx u7.1) (GTerm.h3_26t u7.1)), (14, .cells (GTerm.qx u0u.1) (GTerm.h3_26t u0u.1)), (18, .cells (GTerm.qx u46.1) (GTerm.h3_26t u46.1))], []⟩ (.cons (cimpl_Filled_d h575) .nil) ?_
        apply Wc.seq
        rcases oif h with ⟨h576, h⟩ | ⟨h576, h⟩
        · rcases oif h with ⟨h577, h⟩ | ⟨h577, h⟩
          · refine Wc.r2 [{}, { re := some (.bool true) }, {}, {}, { re := some (.bool true) }] ⟨[tV 0 (.sl (List.map cI.u8 uy)), tP 3 3, tB 9 vp.2, tP 10 10, tB 11 u7.2, tB 92 true], [(3, .cells (GTerm.q ut.1) [(3, .app 26)]), (10, .cells (GTerm.qx u7.1) (GTerm.h3_26t u7.1))], []⟩ (.cons (congrArg AV.bool h576) (.cons (congrArg AV.bool h577) .nil)) ?_
            refine Wc.cT rfl ?_
            apply Wc.seq
            refine Wc.r0 ⟨[tB 2 false], [], []⟩ ?_
            obtain rfl := Option.some.inj h; exact Wc.ret dn
          · rcases oif h with ⟨h578, h⟩ | ⟨h578, h⟩
            · refine Wc.r2 [{}, { re := some (.bool true) }, {}, {}, { re := some (.bool false) }, {}, {}, {}, { re := some (.bool true) }] ⟨[tV 0 (.sl (List.map cI.u8 uy)), tP 3 3, tB 9 vp.2, tP 10 10, tB 11 u7.2, tB 92 true], [(3, .cells (GTerm.q ut.1) [(3, .app 26)]), (10, .cells (GTerm.qx u7.1) (GTerm.h3_26t u7.1))], []⟩ (.cons (congrArg AV.bool h576) (.cons (congrArg AV.bool h577) (.cons (congrArg AV.bool h578) .nil))) ?_
              refine Wc.cT rfl ?_
              apply Wc.seq
              refine Wc.r0 ⟨[tB 2 false], [], []⟩ ?_
              obtain rfl := Option.some.inj h; exact Wc.ret dn
            · obtain ⟨ucc, h579, h⟩ := obind h
              refine Wc.r2 [{}, { re := some (.bool true) }, {}, {}, { re := some (.bool false) }, {}, {}, {}, { re := some (.bool false) }, {}, {}, { r := some (.v (.bool ucc) []) }] ⟨[tV 0 (.sl (List.map cI.u8 uy)), tP 3 3, tB 9 vp.2, tP 10 10, tB 11 u7.2, tB 92 (!ucc)], [(3, .cells (GTerm.q ut.1) [(3, .app 26)]), (10, .cells (GTerm.qx u7.1) (GTerm.h3_26t u7.1))], []⟩ (.cons (congrArg AV.bool h576) (.cons (congrArg AV.bool h577) (.cons (congrArg AV.bool h578) (.cons (cspec_Variant h579) .nil)))) ?_
              rcases oif h with ⟨h580, h⟩ | ⟨h580, h⟩
              · refine Wc.cT h580 ?_
                apply Wc.seq
                refine Wc.r0 ⟨[tB 2 false], [], []⟩ ?_
                obtain rfl := Option.some.inj h; exact Wc.ret dn
              · refine Wc.cF h580 ?_
                refine Wc.fx [] ⟨[tV 0 (.sl (List.map cI.u8 uy)), tP 3 3, tB 9 vp.2, tP 10 10, tB 11 u7.2], [(3, .cells (GTerm.q ut.1) [(3, .app 26)]), (10, .cells (GTerm.qx u7.1) (GTerm.h3_26t u7.1))], []⟩ ?_
                refine Wc.skip ?_
                exact ⟨rfl, h⟩
        · refine Wc.r2 [{}, { re := some (.bool false) }] ⟨[tV 0 (.sl (List.map cI.u8 uy)), tP 3 3, tB 9 vp.2, tP 10 10, tB 11 u7.2, tB 92 false], [(3, .cells (GTerm.q ut.1) [(3, .app 26)]), (10, .cells (GTerm.qx u7.1) (GTerm.h3_26t u7.1))], []⟩ (.cons (congrArg AV.bool h576) .nil) ?_
          refine Wc.cF rfl ?_
          refine Wc.fx [] ⟨[tV 0 (.sl (List.map cI.u8 uy)), tP 3 3, tB 9 vp.2, tP 10 10, tB 11 u7.2], [(3, .cells (GTerm.q ut.1) [(3, .app 26)]), (10, .cells (GTerm.qx u7.1) (GTerm.h3_26t u7.1))], []⟩ ?_
          refine Wc.skip ?_
          exact ⟨rfl, h⟩
      · refine Wc.cF h572 ?_
        refine Wc.fx [] ⟨[tV 0 (.sl (List.map cI.u8 uy)), tP 3 3, tB 9 vp.2, tP 10 10, tB 11 u7.2], [(3, .cells (GTerm.q ut.1) [(3, .app 26)]), (10, .cells (GTerm.qx u7.1) (GTerm.h3_26t u7.1))], []⟩ ?_
        refine Wc.skip ?_
        exact ⟨rfl, h⟩
    · rintro st ⟨rfl, h⟩
      apply Wc.seq
      obtain ⟨zz, h554, h⟩ := obind h
      refine Wc.r2 [{}, { r := some (.v (.tup [.agg [.sl (List.map GTerm.c zz.1.gList)], .agg (GTerm.q zz.2)]) []) }] ⟨[tV 0 (.sl (List.map cI.u8 uy)), tP 3 3, tB 9 vp.2, tP 10 10, tB 11 u7.2, tP 20 20, tP 21 21], [(3, .cells (GTerm.q ut.1) [(3, .app 26)]), (10, .cells (GTerm.qx u7.1) (GTerm.h3_26t u7.1)), bC 20 [.sl (List.map GTerm.c zz.1.gList)], bC 21 (GTerm.q zz.2)], []⟩ (.cons (cspec_DrawFilled h554) .nil) ?_
      apply Wc.seq
      obtain ⟨u19, h555, h⟩ := obind h
      refine Wc.r2 [{}, {}, { r := some (.v (.tup [.agg (GTerm.qx u19.1), .bool u19.2]) (GTerm.h3_26t u19.1)) }, { tk := [101] }, { tk := [98] }, {}, {}, { tk := [102] }] ⟨[tV 0 (.sl (List.map cI.u8 uy)), tP 3 3, tB 9 vp.2, tP 10 10, tB 11 u7.2, tP 20 20, tP 21 21, tP 22 22, tB 23 u19.2], [(3, .cells (GTerm.q ut.1) [(3, .app 26)]), (10, .cells (GTerm.qx u7.1) (GTerm.h3_26t u7.1)), bC 20 [.sl (List.map GTerm.c zz.1.gList)], bC 21 (GTerm.q zz.2), (22, .cells (GTerm.qx u19.1) (GTerm.h3_26t u19.1))], []⟩ (.cons (cimpl_Filled_d h555) .nil) ?_
      apply Wc.seq
      obtain ⟨u44, h556, h⟩ := obind h
      refine Wc.r2 [{}, {}, { r := some (.v (.tup [.agg (GTerm.q u44.1), .bool u44.2]) [(3, .app 26)]) }, { tk := [107] }, { tk := [104] }, {}, {}, { tk := [108] }] ⟨[tV 0 (.sl (List.map cI.u8 uy)), tP 3 3, tB 9 vp.2, tP 10 10, tB 11 u7.2, tP 20 20, tP 21 21, tP 22 22, tB 23 u19.2, tP 24 24, tB 25 u44.2], [(3, .cells (GTerm.q ut.1) [(3, .app 26)]), (10, .cells (GTerm.qx u7.1) (GTerm.h3_26t u7.1)), bC 20 [.sl (List.map GTerm.c zz.1.gList)], bC 21 (GTerm.q zz.2), (22, .cells (GTerm.qx u19.1) (GTerm.h3_26t u19.1)), (24, .cells (GTerm.q u44.1) [(3, .app 26)])], []⟩ (.cons (cspec_Filled h556) .nil) ?_
      apply Wc.seq
      obtain ⟨uag, h557, h⟩ := obind h
      refine Wc.r2 [{}, { r := some (.v (aI uag) []) }] ⟨[tP 3 3, tB 9 vp.2, tP 10 10, tB 11 u7.2, tP 20 20, tP 21 21, tP 22 22, tB 23 u19.2, tP 24 24, tB 25 u44.2, tI 26 uag], [(3, .cells (GTerm.q ut.1) [(3, .app 26)]), (10, .cells (GTerm.qx u7.1) (GTerm.h3_26t u7.1)), bC 20 [.sl (List.map GTerm.c zz.1.gList)], bC 21 (GTerm.q zz.2), (22, .cells (GTerm.qx u19.1) (GTerm.h3_26t u19.1)), (24, .cells (GTerm.q u44.1) [(3, .app 26)])], []⟩ (.cons (cspec_DrawBindsNew h557) .nil) ?_
      apply Wc.seq
      rcases oif h with ⟨h558, h⟩ | ⟨h558, h⟩
      · rcases oif h with ⟨h559, h⟩ | ⟨h559, h⟩
        · obtain ⟨u5a, h560, h⟩ := obind h
          rcases oif h with ⟨h561, h⟩ | ⟨h561, h⟩
          · rcases oif h with ⟨h562, h⟩ | ⟨h562, h⟩
            · obtain ⟨uah, h563, h⟩ := obind h
              rcases oif h with ⟨h564, h⟩ | ⟨h564, h⟩
              · obtain ⟨u7o, h565, h⟩ := obind h
                obtain ⟨uc8, h566, h⟩ := obind h
                obtain ⟨uc9, h567, h⟩ := obind h
                rcases oif h with ⟨h568, h⟩ | ⟨h568, h⟩
                · obtain ⟨ucn, h569, h⟩ := obind h
                  obtain ⟨u43, h570, h⟩ := obind h
                  obtain ⟨uca, h571, h⟩ := obind h
                  refine Wc.draw hmix [{}, { re := some (.bool true) }, {}, {}, { re := some (.bool true) }, {}, {}, { r := some (.v (.bool u5a) []) }, {}, { re := some (.bool true) }, {}, {}, {}, {}, { re := some (.bool true) }, {}, {}, { r := some (.v (.bool uah) []) }, {}, { re := some (.bool true) }, {}, {}, { r := some (.v (.agg (GTerm.qx u7o)) (GTerm.h3_26t u7o)) }, {}, {}, { r := some (.v (.agg (GTerm.q uc8)) [(3, .app 26)]) }, { r := some (.v (.bool uc9) []) }, {}, { re := some (.bool true) }, {}, { r := some (.v (.agg [.slx]) (GUnifier.h0_26t ucn.gList)) }, {}, { r := some (.v (.agg [.sl (List.map GTerm.c u43.gList)]) []) }, { r := some (.v (.bool uca) []) }] [] [2] [] [] ⟨[tB 2 uca], [], []⟩ _ (by kernel_rfl) (fun X => by kernel_rfl) (.cons (congrArg AV.bool h558) (.cons (congrArg AV.bool h559) (.cons (cspec_Variant h560) (.cons (congrArg AV.bool h561) (.cons (congrArg AV.bool h562) (.cons (cspec_SameTerm h563) (.cons (congrArg AV.bool h564) (.cons (cimpl_Walked_d h565) (.cons (cspec_Walked h566) (.cons (cspec_SameTerm h567) (.cons (congrArg AV.bool h568) (.cons (cimpl_BindsNew_d h569) (.cons (cspec_BindsNew h570) (.cons (claws_sameBinds h571) .nil)))))))))))))) ?_
                  obtain rfl := Option.some.inj h; exact Wc.ret dn
                · refine Wc.draw hmix [{}, { re := some (.bool true) }, {}, {}, { re := some (.bool true) }, {}, {}, { r := some (.v (.bool u5a) []) }, {}, { re := some (.bool true) }, {}, {}, {}, {}, { re := some (.bool true) }, {}, {}, { r := some (.v (.bool uah) []) }, {}, { re := some (.bool true) }, {}, {}, { r := some (.v (.agg (GTerm.qx u7o)) (GTerm.h3_26t u7o)) }, {}, {}, { r := some (.v (.agg (GTerm.q uc8)) [(3, .app 26)]) }, { r := some (.v (.bool uc9) []) }, {}, { re := some (.bool false) }] [] [2] [] [] ⟨[tB 2 false], [], []⟩ _ (by kernel_rfl) (fun X => by kernel_rfl) (.cons (congrArg AV.bool h558) (.cons (congrArg AV.bool h559) (.cons (cspec_Variant h560) (.cons (congrArg AV.bool h561) (.cons (congrArg AV.bool h562) (.cons (cspec_SameTerm h563) (.cons (congrArg AV.bool h564) (.cons (cimpl_Walked_d h565) (.cons (cspec_Walked h566) (.cons (cspec_SameTerm h567) (.cons (congrArg AV.bool h568) .nil))))))))))) ?_
                  obtain rfl := Option.some.inj h; exact Wc.ret dn
              · refine Wc.draw hmix [{}, { re := some (.bool true) }, {}, {}, { re := some (.bool true) }, {}, {}, { r := some (.v (.bool u5a) []) }, {}, { re := some (.bool true) }, {}, {}, {}, {}, { re := some (.bool true) }, {}, {}, { r := some (.v (.bool uah) []) }, {}, { re := some (.bool false) }] [] [2] [] [] ⟨[tB 2 false], [], []⟩ _ (by kernel_rfl) (fun X => by kernel_rfl) (.cons (congrArg AV.bool h558) (.cons (congrArg AV.bool h559) (.cons (cspec_Variant h560) (.cons (congrArg AV.bool h561) (.cons (congrArg AV.bool h562) (.cons (cspec_SameTerm h563) (.cons (congrArg AV.bool h564) .nil))))))) ?_
                obtain rfl := Option.some.inj h; exact Wc.ret dn
            · refine Wc.draw hmix [{}, { re := some (.bool true) }, {}, {}, { re := some (.bool true) }, {}, {}, { r := some (.v (.bool u5a) []) }, {}, { re := some (.bool true) }, {}, {}, {}, {}, { re := some (.bool false) }] [] [2] [] [] ⟨[tB 2 false], [], []⟩ _ (by kernel_rfl) (fun X => by kernel_rfl) (.cons (congrArg AV.bool h558) (.cons (congrArg AV.bool h559) (.cons (cspec_Variant h560) (.cons (congrArg AV.bool h561) (.cons (congrArg AV.bool h562) .nil))))) ?_
              obtain rfl := Option.some.inj h; exact Wc.ret dn
          · refine Wc.draw hmix [{}, { re := some (.bool true) }, {}, {}, { re := some (.bool true) }, {}, {}, { r := some (.v (.bool u5a) []) }, {}, { re := some (.bool false) }] [] [2] [] [] ⟨[tB 2 false], [], []⟩ _ (by kernel_rfl) (fun X => by kernel_rfl) (.cons (congrArg AV.bool h558) (.cons (congrArg AV.bool h559) (.cons (cspec_Variant h560) (.cons (congrArg AV.bool h561) .nil)))) ?_
            obtain rfl := Option.some.inj h; exact Wc.ret dn
        · refine Wc.draw hmix [{}, { re := some (.bool true) }, {}, {}, { re := some (.bool false) }] [] [2] [] [] ⟨[tB 2 false], [], []⟩ _ (by kernel_rfl) (fun X => by kernel_rfl) (.cons (congrArg AV.bool h558) (.cons (congrArg AV.bool h559) .nil)) ?_
          obtain rfl := Option.some.inj h; exact Wc.ret dn
      · refine Wc.draw hmix [{}, { re := some (.bool false) }] [] [2] [] [] ⟨[tB 2 false], [], []⟩ _ (by kernel_rfl) (fun X => by kernel_rfl) (.cons (congrArg AV.bool h558) .nil) ?_
        obtain rfl := Option.some.inj h; exact Wc.ret dn
end Go.Proofs.Ytcdbdmokaihcoaa

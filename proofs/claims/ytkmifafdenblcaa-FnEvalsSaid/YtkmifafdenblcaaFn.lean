/- What the functions do, part 3. -/
import Derived.Test.YtkmifafdenblcaaFnb
set_option linter.unusedVariables false
set_option linter.unusedSimpArgs false
namespace Go.Proofs.Ytkmifafdenblcaa
open Go.RowKit Go.Bv
def pspec_l34Terms_d_L1 (k : Nat) (rspec_l34Term_d : GTerm → Option GTerm) (rspec_l34Terms_d : (List GTerm) → Option (List GTerm)) (zp : List GTerm) : Nat → (List GTerm) → Int → Option (Out (List GTerm) (List GTerm))
  | 0, _, _ => none
  | m + 1, u27, zq =>
    if (decide (zq < (zp.length : Int))) = true then
      (at' zp zq).bind fun ubm =>
      (rspec_l34Term_d ubm).bind fun u31 =>
      if u27.length + [u31].length ≤ 1073741824 then
        pspec_l34Terms_d_L1 k rspec_l34Term_d rspec_l34Terms_d zp m (u27 ++ [u31]) (wr.i64 (zq + 1))
      else none
    else
      some (.done u27)
mutual
def pspec_l34Term_d : Nat → GTerm → Option GTerm
  | 0, _ => none
  | k + 1, u28 =>
    (pspec_l34Terms_d k u28.gKids).bind fun ubn =>
    some (GTerm.mk u28.gKind u28.gName u28.gNum ubn)
def pspec_l34Terms_d : Nat → (List GTerm) → Option (List GTerm)
  | 0, _ => none
  | k + 1, zp =>
    (pspec_l34Terms_d_L1 k (pspec_l34Term_d k) (pspec_l34Terms_d k) zp k [] 0).bind fun out1 => match out1 with
    | .ret r => some r
    | .done u8l =>
      some u8l
end
theorem all_pspec_l34Term_d : ∀ k : Nat, (∀ {u28 : GTerm} {r : GTerm}, pspec_l34Term_d k u28 = some r → FnO Try.prog 68 [.v (.agg (GTerm.q u28)) []] (.v (.agg (GTerm.qx r)) (GTerm.h3_41t r)) []) ∧
    (∀ {zp : List GTerm} {r : (List GTerm)}, pspec_l34Terms_d k zp = some r → FnO Try.prog 105 [.v (.sl (List.map GTerm.c zp)) []] (.v (.slx) [(0, .ex 41 true (List.map GTerm.c r))]) []) := by
  intro k
  induction k with
  | zero =>
    refine ⟨?_, ?_⟩
    · intro u28 r h
      exact (onone (by rw [pspec_l34Term_d] at h; exact h)).elim
    · intro zp r h
      exact (onone (by rw [pspec_l34Terms_d] at h; exact h)).elim
  | succ k ih =>
    obtain ⟨ih_pspec_l34Term_d, ih_pspec_l34Terms_d⟩ := ih
    refine ⟨?_, ?_⟩
    · intro u28 r h
      rw [pspec_l34Term_d] at h
      refine FnO.o2 Try.func68 (rfl : Try.f68.body = some _) ?_
      intro w0 X0 Fin pv0 pb gt
      apply Wc.seq
      refine Wc.r0 ⟨[tP 1 1, tP 2 2], [bC 1 (GTerm.q u28), (2, .cells GTerm.z [(3, .app 41)])], []⟩ ?_
      apply Wc.seq
      obtain ⟨ubn, h734, h⟩ := obind h
      refine Wc.r2 [{}, {}, { r := some (.v (.slx) [(0, .ex 41 true (List.map GTerm.c ubn))]) }, {}, { tk := [5] }] ⟨[tP 1 1, tP 2 2], [(1, .cells (GTerm.qx u28) [(3, .ex 41 true (List.map GTerm.c ubn))]), (2, .cells GTerm.z [(3, .app 41)])], []⟩ (.cons (ih_pspec_l34Terms_d h734) .nil) ?_
      apply Wc.seq
      refine Wc.r1 [{ md := 1 }, { tk := [7] }] ⟨[tP 2 2], [(2, .cells (GTerm.qx u28) [(3, .ex 41 true (List.map GTerm.c ubn))])], []⟩ ?_
      obtain rfl := Option.some.inj h; exact Wc.ret dn
    · intro zp r h
      rw [pspec_l34Terms_d] at h
      refine FnO.o2 Try.func105 (rfl : Try.f105.body = some _) ?_
      intro w0 X0 Fin pv0 pb gt
      apply Wc.seq
      refine Wc.r0 ⟨[tV 0 (.sl (List.map GTerm.c zp))], [], []⟩ ?_
      apply Wc.seq
      refine Wc.r2 [{ c := some (List.map GTerm.c []), md := 2 }, { tk := [5] }] ⟨[tV 0 (.sl (List.map GTerm.c zp)), (3, (.v (.slx), [(0, .ex 41 true (List.map GTerm.c []))]))], [], []⟩ (.cons (cl_nil GTerm.c) .nil) ?_
      apply Wc.seq
      apply Wc.seq
      refine Wc.r0 ⟨[tV 0 (.sl (List.map GTerm.c zp)), (3, (.v (.slx), [(0, .ex 41 true (List.map GTerm.c []))])), tI 4 0], [], []⟩ ?_
      obtain ⟨out1, h735, h⟩ := obind h
      refine Wc.lastJ (fun st => ∃ (u8l : List GTerm), out1 = .done u8l ∧ st = ⟨[(3, (.v (.slx), [(0, .ex 41 true (List.map GTerm.c u8l))]))], [], []⟩) ?_ ?_
      · refine Wc.block ?_
        refine Wc.loop (fun m st => ∃ (u27 : List GTerm) (zq : Int), st = ⟨[tV 0 (.sl (List.map GTerm.c zp)), (3, (.v (.slx), [(0, .ex 41 true (List.map GTerm.c u27))])), tI 4 zq], [], []⟩ ∧ pspec_l34Terms_d_L1 k (pspec_l34Term_d k) (pspec_l34Terms_d k) zp m u27 zq = some out1) ?_ k ⟨_, _, rfl, h735⟩
        rintro m st ⟨u27, zq, rfl, h735⟩
        cases m with
        | zero => exact (onone h735).elim
        | succ m =>
          apply Wc.seq
          apply Wc.seq
          refine Wc.r2 [{}, {}, { v := some (aI (zp.length : Int)) }] ⟨[tV 0 (.sl (List.map GTerm.c zp)), (3, (.v (.slx), [(0, .ex 41 true (List.map GTerm.c u27))])), tI 4 zq, tB 9 (decide (zq < (zp.length : Int)))], [], []⟩ (.cons (len_obl GTerm.c zp) .nil) ?_
          rcases oif h735 with ⟨h736, h735⟩ | ⟨h736, h735⟩
          · refine Wc.cT h736 ?_
            refine Wc.fx [] ⟨[tV 0 (.sl (List.map GTerm.c zp)), (3, (.v (.slx), [(0, .ex 41 true (List.map GTerm.c u27))])), tI 4 zq], [], []⟩ ?_
            refine Wc.skip ?_
            apply Wc.seq
            refine Wc.block ?_
            obtain ⟨ubm, h737, h735⟩ := obind h735
            obtain ⟨u31, h738, h735⟩ := obind h735
            obtain ⟨h739, h735⟩ := oguard h735
            refine Wc.r2 [{ tk := [3] }, {}, {}, { v := some (.vptr (GTerm.q ubm)) }, {}, { r := some (.v (.agg (GTerm.qx u31)) (GTerm.h3_41t u31)) }, { c := some (List.map GTerm.c [u31]), tk := [17], md := 2 }, { c := some (List.map GTerm.c (u27 ++ [u31])), tk := [12, 18], md := 2 }, { tk := [19] }] ⟨[tV 0 (.sl (List.map GTerm.c zp)), (3, (.v (.slx), [(0, .ex 41 true (List.map GTerm.c (u27 ++ [u31])))])), tI 4 zq], [], []⟩ (.cons (at_obl (c := GTerm.c) (GTerm.c_eq ubm) GTerm.c_len h737) (.cons (len_ok 4 (GTerm.q ubm)) (.cons (ih_pspec_l34Term_d h738) (.cons (cl_cons (c := GTerm.c) (x := u31) (GTerm.c_eq u31) (cl_nil GTerm.c)) (.cons (app_re2 GTerm.c u27 [u31]) (.cons (app_obl2 (c := GTerm.c) (xs := u27) (ys := [u31]) GTerm.c_len h739) .nil)))))) ?_
            refine Wc.r0 ⟨[tV 0 (.sl (List.map GTerm.c zp)), (3, (.v (.slx), [(0, .ex 41 true (List.map GTerm.c (u27 ++ [u31])))])), tI 4 (wr.i64 (zq + 1))], [], []⟩ ?_
            exact ⟨_, Nat.lt_succ_self _, _, _, rfl, h735⟩
          · refine Wc.cF h736 ?_
            refine Wc.fx [] ⟨[(3, (.v (.slx), [(0, .ex 41 true (List.map GTerm.c u27))]))], [], []⟩ ?_
            refine Wc.exit ?_
            obtain rfl := Option.some.inj h735
            exact ⟨_, rfl, rfl⟩
      · rintro st ⟨u8l, rfl, rfl⟩
        apply Wc.seq
        refine Wc.r1 [{ tk := [3] }, { tk := [20] }] ⟨[(2, (.v (.slx), [(0, .ex 41 true (List.map GTerm.c u8l))]))], [], []⟩ ?_
        obtain rfl := Option.some.inj h; exact Wc.ret dn
theorem cspec_l34Term_d {k : Nat} {u28 : GTerm} {r : GTerm} (h : pspec_l34Term_d k u28 = some r) : FnO Try.prog 68 [.v (.agg (GTerm.q u28)) []] (.v (.agg (GTerm.qx r)) (GTerm.h3_41t r)) [] := (all_pspec_l34Term_d k).1 h
theorem cspec_l34Terms_d {k : Nat} {zp : List GTerm} {r : (List GTerm)} (h : pspec_l34Terms_d k zp = some r) : FnO Try.prog 105 [.v (.sl (List.map GTerm.c zp)) []] (.v (.slx) [(0, .ex 41 true (List.map GTerm.c r))]) [] := (all_pspec_l34Term_d k).2 h

def pspec_l34Binds_d (k : Nat) (ubo : GBinds) : Option GBinds :=
  (pspec_l34Terms_d k ubo.gList).bind fun ubp =>
  some (GBinds.mk ubp)
theorem cspec_l34Binds_d {k : Nat} {ubo : GBinds} {r : GBinds} (h : pspec_l34Binds_d k ubo = some r) : FnO Try.prog 144 [.v (.agg [.sl (List.map GTerm.c ubo.gList)]) []] (.v (.agg [.slx]) (GL04Fill.h0_41t r.gList)) [] := by
  refine FnO.o2 Try.func144 (rfl : Try.f144.body = some _) ?_
  intro w0 X0 Fin pv0 pb gt
  unfold pspec_l34Binds_d at h
  apply Wc.seq
  refine Wc.r0 ⟨[tP 1 1, tP 2 2], [bC 1 [.sl (List.map GTerm.c ubo.gList)], (2, .cells GBinds.z [(0, .app 41)])], []⟩ ?_
  apply Wc.seq
  obtain ⟨ubp, h730, h⟩ := obind h
  refine Wc.r2 [{}, {}, { r := some (.v (.slx) [(0, .ex 41 true (List.map GTerm.c ubp))]) }, {}, { tk := [5] }] ⟨[tP 1 1, tP 2 2], [(1, .cells [.slx] [(0, .ex 41 true (List.map GTerm.c ubp))]), (2, .cells GBinds.z [(0, .app 41)])], []⟩ (.cons (cspec_l34Terms_d h730) .nil) ?_
  apply Wc.seq
  refine Wc.r1 [{ md := 1 }, { tk := [7] }] ⟨[tP 2 2], [(2, .cells [.slx] [(0, .ex 41 true (List.map GTerm.c ubp))])], []⟩ ?_
  obtain rfl := Option.some.inj h; exact Wc.ret dn

def pspec_BindsNew_d_J1 (k : Nat) (u2o : Int) : Option GBinds :=
  if (decide (u2o > 5000)) = true then
    if 0 ≤ (5000 : Int) ∧ (5000 : Int) ≤ 1073741824 then
      some (GBinds.mk (List.replicate ((5000 : Int)).toNat (GTerm.mk 0 (bs []) 0 [])))
    else none
  else
    if 0 ≤ u2o ∧ u2o ≤ 1073741824 then
      some (GBinds.mk (List.replicate (u2o).toNat (GTerm.mk 0 (bs []) 0 [])))
    else none
def pspec_BindsNew_d (k : Nat) (u4y : Int) : Option GBinds :=
  if (decide (u4y < 0)) = true then
    pspec_BindsNew_d_J1 k 0
  else
    pspec_BindsNew_d_J1 k u4y
theorem cspec_BindsNew_d {k : Nat} {u4y : Int} {r : GBinds} (h : pspec_BindsNew_d k u4y = some r) : FnO Try.prog 34 [.v (aI u4y) []] (.v (.agg [.slx]) (GL04Fill.h0_41t r.gList)) [] := by
  refine FnO.o2 Try.func34 (rfl : Try.f34.body = some _) ?_
  intro w0 X0 Fin pv0 pb gt
  unfold pspec_BindsNew_d at h
  apply Wc.seq
  refine Wc.r0 ⟨[tI 0 u4y, tP 2 2], [(2, .cells GBinds.z [(0, .app 41)])], []⟩ ?_
  refine Wc.seqJ (fun st => ∃ (u2o : Int), st = ⟨[tI 0 u2o, tP 2 2], [(2, .cells [.slx] [(0, .ex 41 true (List.map GTerm.c []))])], []⟩ ∧ pspec_BindsNew_d_J1 k u2o = some r) ?_ ?_
  · apply Wc.seq
    refine Wc.r0 ⟨[tI 0 u4y, tP 2 2, tB 4 (decide (u4y < 0))], [(2, .cells GBinds.z [(0, .app 41)])], []⟩ ?_
    rcases oif h with ⟨h735, h⟩ | ⟨h735, h⟩
    · refine Wc.cT h735 ?_
      refine Wc.r3 [] [.ow (.b 2 0) true] ⟨[tI 0 0, tP 2 2], [(2, .cells [.slx] [(0, .ex 41 true (List.map GTerm.c []))])], []⟩ .nil ?_
      exact ⟨_, rfl, h⟩
    · refine Wc.cF h735 ?_
      refine Wc.fx [.ow (.b 2 0) true] ⟨[tI 0 u4y, tP 2 2], [(2, .cells [.slx] [(0, .ex 41 true (List.map GTerm.c []))])], []⟩ ?_
      refine Wc.skip ?_
      exact ⟨_, rfl, h⟩
  · rintro st ⟨u2o, rfl, h⟩
    apply Wc.seq
    apply Wc.seq
    refine Wc.r0 ⟨[tI 0 u2o, tP 2 2, tB 6 (decide (u2o > 5000))], [(2, .cells [.slx] [(0, .ex 41 true (List.map GTerm.c []))])], []⟩ ?_
    rcases oif h with ⟨h732, h⟩ | ⟨h732, h⟩
    · refine Wc.cT h732 ?_
      refine Wc.r0 ⟨[tI 0 5000, tP 2 2], [(2, .cells [.slx] [(0, .ex 41 true (List.map GTerm.c []))])], []⟩ ?_
      apply Wc.seq
      obtain ⟨h733, h⟩ := oguard h
      refine Wc.r2 [{}, { c := some (List.map GTerm.c (List.replicate ((5000 : Int)).toNat (GTerm.mk 0 (bs []) 0 []))) }, { tk := [8] }, { tk := [9] }] ⟨[tP 2 2], [(2, .cells [.slx] [(0, .ex 41 true (List.map GTerm.c (List.replicate ((5000 : Int)).toNat (GTerm.mk 0 (bs []) 0 []))))])], []⟩ (.cons (rep_re (c := GTerm.c) (z := (GTerm.mk 0 (bs []) 0 [])) (GTerm.c_eq (GTerm.mk 0 (bs []) 0 [])) ((5000 : Int)).toNat) (.cons (ms_obl h733) .nil)) ?_
      obtain rfl := Option.some.inj h; exact Wc.ret dn
    · refine Wc.cF h732 ?_
      refine Wc.fx [] ⟨[tI 0 u2o, tP 2 2], [(2, .cells [.slx] [(0, .ex 41 true (List.map GTerm.c []))])], []⟩ ?_
      refine Wc.skip ?_
      apply Wc.seq
      obtain ⟨h734, h⟩ := oguard h
      refine Wc.r2 [{}, { c := some (List.map GTerm.c (List.replicate (u2o).toNat (GTerm.mk 0 (bs []) 0 []))) }, { tk := [8] }, { tk := [9] }] ⟨[tP 2 2], [(2, .cells [.slx] [(0, .ex 41 true (List.map GTerm.c (List.replicate (u2o).toNat (GTerm.mk 0 (bs []) 0 []))))])], []⟩ (.cons (rep_re (c := GTerm.c) (z := (GTerm.mk 0 (bs []) 0 [])) (GTerm.c_eq (GTerm.mk 0 (bs []) 0 [])) (u2o).toNat) (.cons (ms_obl h734) .nil)) ?_
      obtain rfl := Option.some.inj h; exact Wc.ret dn

def pspec_Unify_d (k : Nat) (ubq : GBinds) (ubr : GTerm) (ubs : GTerm) : Option (GBinds × Bool) :=
  (pspec_l04UnifyRaw k ubq ubr ubs).bind fun u5n =>
  (pspec_l34Binds_d k u5n.1).bind fun udr =>
  some (udr, u5n.2)
theorem cspec_Unify_d {k : Nat} {ubq : GBinds} {ubr : GTerm} {ubs : GTerm} {r : GBinds × Bool} (h : pspec_Unify_d k ubq ubr ubs = some r) : FnO Try.prog 125 [.v (.agg [.sl (List.map GTerm.c ubq.gList)]) [], .v (.agg (GTerm.q ubr)) [], .v (.agg (GTerm.q ubs)) []] (.v (.tup [.agg [.slx], .bool r.2]) (GL04Fill.h0_41t r.1.gList)) [] := by
  refine FnO.o2 Try.func125 (rfl : Try.f125.body = some _) ?_
  intro w0 X0 Fin pv0 pb gt
  unfold pspec_Unify_d at h
  apply Wc.seq
  refine Wc.r0 ⟨[tP 3 3, tP 4 4, tP 5 5, tP 6 6], [bC 3 [.sl (List.map GTerm.c ubq.gList)], bC 4 (GTerm.q ubr), bC 5 (GTerm.q ubs), (6, .cells GBinds.z [(0, .app 41)])], []⟩ ?_
  apply Wc.seq
  obtain ⟨u5n, h735, h⟩ := obind h
  refine Wc.r2 [{}, {}, {}, { r := some (.v (.tup [.agg [.sl (List.map GTerm.c u5n.1.gList)], .bool u5n.2]) []) }] ⟨[tP 6 6, tP 8 8, tB 9 u5n.2], [(6, .cells GBinds.z [(0, .app 41)]), bC 8 [.sl (List.map GTerm.c u5n.1.gList)]], []⟩ (.cons (cspec_l04UnifyRaw h735) .nil) ?_
  apply Wc.seq
  obtain ⟨udr, h736, h⟩ := obind h
  refine Wc.r2 [{}, { r := some (.v (.agg [.slx]) (GL04Fill.h0_41t udr.gList)) }, {}, { tk := [18] }] ⟨[tP 6 6, tB 7 u5n.2], [(6, .cells [.slx] (GL04Fill.h0_41t udr.gList))], []⟩ (.cons (cspec_l34Binds_d h736) .nil) ?_
  obtain rfl := Option.some.inj h; exact Wc.ret dn

def pspec_l04Binds_d_L1 (k : Nat) : Nat → Int → GBinds → GL01Cur → Option (Out (GL01Cur × GBinds) (GBinds × GL01Cur))
  | 0, _, _, _ => none
  | m + 1, zq, u48, ubt =>
    (pspec_l01Below k ubt 4).bind fun v5 =>
    if (decide (zq < v5.2)) = true then
      (pspec_l03Term k v5.1).bind fun u7 =>
      (pspec_l03Term k u7.1).bind fun u6l =>
      (pspec_Unify_d k u48 u7.2 u6l.2).bind fun u8m =>
      pspec_l04Binds_d_L1 k m (wr.i64 (zq + 1)) u8m.1 u6l.1
    else
      some (.done (u48, v5.1))
def pspec_l04Binds_d (k : Nat) (u5o : GL01Cur) : Option (GL01Cur × GBinds) :=
  (pspec_BindsNew_d k 4).bind fun u8n =>
  (pspec_l04Binds_d_L1 k k 0 u8n u5o).bind fun out1 => match out1 with
  | .ret r => some r
  | .done (u8o, u8p) =>
    some (u8p, u8o)
theorem cspec_l04Binds_d {k : Nat} {u5o : GL01Cur} {r : GL01Cur × GBinds} (h : pspec_l04Binds_d k u5o = some r) : FnO Try.prog 95 [.p (GL01Cur.q u5o) []] (.v (.agg [.slx]) (GL04Fill.h0_41t r.2.gList)) [(0, .p (GL01Cur.q r.1) [])] := by
  refine FnO.o2 Try.func95 (rfl : Try.f95.body = some _) ?_
  intro w0 X0 Fin pv0 pb gt
  unfold pspec_l04Binds_d at h
  apply Wc.seq
  refine Wc.r0 ⟨[tP 0 1000000, tP 2 2], [(2, .cells GBinds.z [(0, .app 41)]), bC 1000000 (GL01Cur.q u5o)], []⟩ ?_
  apply Wc.seq
  obtain ⟨u8n, h735, h⟩ := obind h
  refine Wc.r2 [{ r := some (.v (.agg [.slx]) (GL04Fill.h0_41t u8n.gList)) }, {}, { tk := [6] }] ⟨[tP 0 1000000, tP 2 2, tP 3 3], [(2, .cells GBinds.z [(0, .app 41)]), (3, .cells [.slx] (GL04Fill.h0_41t u8n.gList)), bC 1000000 (GL01Cur.q u5o)], []⟩ (.cons (cspec_BindsNew_d h735) .nil) ?_
  apply Wc.seq
  apply Wc.seq
  refine Wc.r0 ⟨[tP 0 1000000, tP 2 2, tP 3 3, tI 4 0], [(2, .cells GBinds.z [(0, .app 41)]), (3, .cells [.slx] (GL04Fill.h0_41t u8n.gList)), bC 1000000 (GL01Cur.q u5o)], []⟩ ?_
  obtain ⟨out1, h736, h⟩ := obind h
  refine Wc.lastJ (fun st => ∃ (u8o : GBinds) (u8p : GL01Cur), out1 = .done (u8o, u8p) ∧ st = ⟨[tP 2 2, tP 3 3], [(2, .cells [.slx] [(0, .ex 41 true (List.map GTerm.c []))]), (3, .cells [.slx] (GL04Fill.h0_41t u8o.gList)), bC 1000000 (GL01Cur.q u8p)], []⟩) ?_ ?_
  · refine Wc.block ?_
    refine Wc.fx [.ow (.b 2 0) true] ⟨[tP 0 1000000, tP 2 2, tP 3 3, tI 4 0], [(2, .cells [.slx] [(0, .ex 41 true (List.map GTerm.c []))]), (3, .cells [.slx] (GL04Fill.h0_41t u8n.gList)), bC 1000000 (GL01Cur.q u5o)], []⟩ ?_
    refine Wc.loop (fun m st => ∃ (zq : Int) (u48 : GBinds) (ubt : GL01Cur), st = ⟨[tP 0 1000000, tP 2 2, tP 3 3, tI 4 zq], [(2, .cells [.slx] [(0, .ex 41 true (List.map GTerm.c []))]), (3, .cells [.slx] (GL04Fill.h0_41t u48.gList)), bC 1000000 (GL01Cur.q ubt)], []⟩ ∧ pspec_l04Binds_d_L1 k m zq u48 ubt = some out1) ?_ k ⟨_, _, _, rfl, h736⟩
    rintro m st ⟨zq, u48, ubt, rfl, h736⟩
    cases m with
    | zero => exact (onone h736).elim
    | succ m =>
      apply Wc.seq
      apply Wc.seq
      obtain ⟨v5, h737, h736⟩ := obind h736
      refine Wc.r2 [{}, {}, { r := some (.v (aI v5.2) []), outs := [(0, .p (GL01Cur.q v5.1) [])] }] ⟨[tP 0 1000000, tP 2 2, tP 3 3, tI 4 zq, tB 10 (decide (zq < v5.2))], [(2, .cells [.slx] [(0, .ex 41 true (List.map GTerm.c []))]), (3, .cells [.slx] (GL04Fill.h0_41t u48.gList)), bC 1000000 (GL01Cur.q v5.1)], []⟩ (.cons (cspec_l01Below h737) .nil) ?_
      rcases oif h736 with ⟨h738, h736⟩ | ⟨h738, h736⟩
      · refine Wc.cT h738 ?_
        refine Wc.fx [] ⟨[tP 0 1000000, tP 2 2, tP 3 3, tI 4 zq], [(2, .cells [.slx] [(0, .ex 41 true (List.map GTerm.c []))]), (3, .cells [.slx] (GL04Fill.h0_41t u48.gList)), bC 1000000 (GL01Cur.q v5.1)], []⟩ ?_
        refine Wc.skip ?_
        apply Wc.seq
        refine Wc.block ?_
        apply Wc.seq
        obtain ⟨u7, h739, h736⟩ := obind h736
        refine Wc.r2 [{}, { r := some (.v (.agg (GTerm.q u7.2)) [(3, .app 41)]), outs := [(0, .p (GL01Cur.q u7.1) [])] }, {}, { tk := [14] }] ⟨[tP 0 1000000, tP 2 2, tP 3 3, tI 4 zq, tP 5 5], [(2, .cells [.slx] [(0, .ex 41 true (List.map GTerm.c []))]), (3, .cells [.slx] (GL04Fill.h0_41t u48.gList)), (5, .cells (GTerm.q u7.2) [(3, .app 41)]), bC 1000000 (GL01Cur.q u7.1)], []⟩ (.cons (cspec_l03Term h739) .nil) ?_
        obtain ⟨u6l, h740, h736⟩ := obind h736
        obtain ⟨u8m, h741, h736⟩ := obind h736
        refine Wc.every hmix [{}, {}, {}, { r := some (.v (.agg (GTerm.q u6l.2)) [(3, .app 41)]), outs := [(0, .p (GL01Cur.q u6l.1) [])] }, { r := some (.v (.tup [.agg [.slx], .bool u8m.2]) (GL04Fill.h0_41t u8m.1.gList)) }, { tk := [20] }, { tk := [15] }, {}, { tk := [21] }] [] [0, 2, 3, 4] [2, 3, 1000000] [] ⟨[tP 0 1000000, tP 2 2, tP 3 3, tI 4 zq], [(2, .cells [.slx] [(0, .ex 41 true (List.map GTerm.c []))]), (3, .cells [.slx] (GL04Fill.h0_41t u8m.1.gList)), bC 1000000 (GL01Cur.q u6l.1)], []⟩ _ 36 (by kernel_rfl) (.cons .nil (.cons .nil (.cons .nil (.cons (.cons (cspec_l03Term h740) .nil) (.cons (.cons (cspec_Unify_d h741) .nil) (.cons .nil (.cons .nil (.cons .nil (.cons .nil .nil))))))))) ?_
        refine Wc.r0 ⟨[tP 0 1000000, tP 2 2, tP 3 3, tI 4 (wr.i64 (zq + 1))], [(2, .cells [.slx] [(0, .ex 41 true (List.map GTerm.c []))]), (3, .cells [.slx] (GL04Fill.h0_41t u8m.1.gList)), bC 1000000 (GL01Cur.q u6l.1)], []⟩ ?_
        exact ⟨_, Nat.lt_succ_self _, _, _, _, rfl, h736⟩
      · refine Wc.cF h738 ?_
        refine Wc.fx [] ⟨[tP 2 2, tP 3 3], [(2, .cells [.slx] [(0, .ex 41 true (List.map GTerm.c []))]), (3, .cells [.slx] (GL04Fill.h0_41t u48.gList)), bC 1000000 (GL01Cur.q v5.1)], []⟩ ?_
        refine Wc.exit ?_
        obtain rfl := Option.some.inj h736
        exact ⟨_, _, rfl, rfl⟩
  · rintro st ⟨u8o, u8p, rfl, rfl⟩
    apply Wc.seq
    refine Wc.r1 [{ md := 1 }, { tk := [23] }] ⟨[tP 2 2], [(2, .cells [.slx] (GL04Fill.h0_41t u8o.gList)), bC 1000000 (GL01Cur.q u8p)], []⟩ ?_
    obtain rfl := Option.some.inj h; exact Wc.ret dn

def pspec_l03Var_d (k : Nat) (u6m : Int) : Option GTerm :=
  some (GTerm.mk 1 (bs []) u6m [])
theorem cspec_l03Var_d {k : Nat} {u6m : Int} {r : GTerm} (h : pspec_l03Var_d k u6m = some r) : FnO Try.prog 96 [.v (aI u6m) []] (.v (.agg (GTerm.qx r)) (GTerm.h3_41t r)) [] := by
  refine FnO.o2 Try.func96 (rfl : Try.f96.body = some _) ?_
  intro w0 X0 Fin pv0 pb gt
  unfold pspec_l03Var_d at h
  apply Wc.seq
  refine Wc.r0 ⟨[tI 0 u6m, tP 2 2], [(2, .cells GTerm.z [(3, .app 41)])], []⟩ ?_
  apply Wc.seq
  refine Wc.r1 [{}, {}, { tk := [4] }] ⟨[tP 2 2], [(2, .cells [aI 1, .str (bs []), aI u6m, .sl (List.map GTerm.c [])] [(3, .app 41)])], []⟩ ?_
  refine Wc.fx [.ow (.b 2 3) true] ⟨[tP 2 2], [(2, .cells [aI 1, .str (bs []), aI u6m, .slx] [(3, .ex 41 true (List.map GTerm.c []))])], []⟩ ?_
  obtain rfl := Option.some.inj h; exact Wc.ret dn

def pspec_l03Atom_d (k : Nat) (u6n : ByteArray) : Option GTerm :=
  some (GTerm.mk 2 u6n 0 [])
theorem cspec_l03Atom_d {k : Nat} {u6n : ByteArray} {r : GTerm} (h : pspec_l03Atom_d k u6n = some r) : FnO Try.prog 65 [.v (.str u6n) []] (.v (.agg (GTerm.qx r)) (GTerm.h3_41t r)) [] := by
  refine FnO.o2 Try.func65 (rfl : Try.f65.body = some _) ?_
  intro w0 X0 Fin pv0 pb gt
  unfold pspec_l03Atom_d at h
  apply Wc.seq
  refine Wc.r0 ⟨[tS 0 u6n, tP 2 2], [(2, .cells GTerm.z [(3, .app 41)])], []⟩ ?_
  apply Wc.seq
  refine Wc.r1 [{}, {}, { tk := [4] }] ⟨[tP 2 2], [(2, .cells [aI 2, .str u6n, aI 0, .sl (List.map GTerm.c [])] [(3, .app 41)])], []⟩ ?_
  refine Wc.fx [.ow (.b 2 3) true] ⟨[tP 2 2], [(2, .cells [aI 2, .str u6n, aI 0, .slx] [(3, .ex 41 true (List.map GTerm.c []))])], []⟩ ?_
  obtain rfl := Option.some.inj h; exact Wc.ret dn

def pspec_l03Num_d (k : Nat) (u0u : Int) : Option GTerm :=
  some (GTerm.mk 3 (bs []) u0u [])
theorem cspec_l03Num_d {k : Nat} {u0u : Int} {r : GTerm} (h : pspec_l03Num_d k u0u = some r) : FnO Try.prog 124 [.v (aI u0u) []] (.v (.agg (GTerm.qx r)) (GTerm.h3_41t r)) [] := by
  refine FnO.o2 Try.func124 (rfl : Try.f124.body = some _) ?_
  intro w0 X0 Fin pv0 pb gt
  unfold pspec_l03Num_d at h
  apply Wc.seq
  refine Wc.r0 ⟨[tI 0 u0u, tP 2 2], [(2, .cells GTerm.z [(3, .app 41)])], []⟩ ?_
  apply Wc.seq
  refine Wc.r1 [{}, {}, { tk := [4] }] ⟨[tP 2 2], [(2, .cells [aI 3, .str (bs []), aI u0u, .sl (List.map GTerm.c [])] [(3, .app 41)])], []⟩ ?_
  refine Wc.fx [.ow (.b 2 3) true] ⟨[tP 2 2], [(2, .cells [aI 3, .str (bs []), aI u0u, .slx] [(3, .ex 41 true (List.map GTerm.c []))])], []⟩ ?_
  obtain rfl := Option.some.inj h; exact Wc.ret dn

def pspec_l03Two_d (k : Nat) (u8q : ByteArray) (u3t : GTerm) (u3u : GTerm) : Option GTerm :=
  some (GTerm.mk 4 u8q 0 [u3t, u3u])
theorem cspec_l03Two_d {k : Nat} {u8q : ByteArray} {u3t : GTerm} {u3u : GTerm} {r : GTerm} (h : pspec_l03Two_d k u8q u3t u3u = some r) : FnO Try.prog 64 [.v (.str u8q) [], .v (.agg (GTerm.qx u3t)) (GTerm.h3_41t u3t), .v (.agg (GTerm.qx u3u)) (GTerm.h3_41t u3u)] (.v (.agg (GTerm.qx r)) (GTerm.h3_41t r)) [] := by
  refine FnO.o2 Try.func64 (rfl : Try.f64.body = some _) ?_
  intro w0 X0 Fin pv0 pb gt
  unfold pspec_l03Two_d at h
  apply Wc.seq
  refine Wc.r1 [{ tk := [1] }, { tk := [2] }] ⟨[tS 0 u8q, tP 4 4, tP 5 5, tP 6 6], [(4, .cells (GTerm.qx u3t) (GTerm.h3_41t u3t)), (5, .cells (GTerm.qx u3u) (GTerm.h3_41t u3u)), (6, .cells GTerm.z [(3, .app 41)])], []⟩ ?_
  apply Wc.seq
  refine Wc.r2 [{}, { md := 1 }, { md := 1 }, { c := some (List.map GTerm.c [u3t, u3u]), tk := [8, 9], md := 2 }, { tk := [10] }, { tk := [11] }] ⟨[tP 6 6], [(6, .cells [aI 4, .str u8q, aI 0, .slx] [(3, .ex 41 true (List.map GTerm.c [u3t, u3u]))])], []⟩ (.cons (cl_cons (c := GTerm.c) (x := u3t) (GTerm.c_eq u3t) (cl_cons (c := GTerm.c) (x := u3u) (GTerm.c_eq u3u) (cl_nil GTerm.c))) .nil) ?_
  obtain rfl := Option.some.inj h; exact Wc.ret dn

def pspec_l03Made_d_L2 (k : Nat) (rspec_l03Made_d : GL01Cur → Int → Option (GL01Cur × GTerm)) (ut : Int) : Nat → Int → GTerm → GL01Cur → Option (Out (GL01Cur × GTerm) (GTerm × GL01Cur))
  | 0, _, _, _ => none
  | m + 1, u29, v6, ubu =>
    (pspec_l01Below k ubu 3).bind fun u2p =>
    if (decide (u29 < (wr.i64 (1 + u2p.2)))) = true then
      if (decide ((v6.gKids.length : Int) < 5)) = true then
        (rspec_l03Made_d u2p.1 (wr.i64 (ut - 1))).bind fun u1d =>
        if v6.gKids.length + [u1d.2].length ≤ 1073741824 then
          pspec_l03Made_d_L2 k rspec_l03Made_d ut m (wr.i64 (u29 + 1)) (GTerm.mk v6.gKind v6.gName v6.gNum (v6.gKids ++ [u1d.2])) u1d.1
        else none
      else
        pspec_l03Made_d_L2 k rspec_l03Made_d ut m (wr.i64 (u29 + 1)) v6 u2p.1
    else
      some (.done (v6, u2p.1))
def pspec_l03Made_d_J1 (k : Nat) (rspec_l03Made_d : GL01Cur → Int → Option (GL01Cur × GTerm)) (vu : GL01Cur × Int) (ut : Int) (u12 : Int) : Option (GL01Cur × GTerm) :=
  if (decide (u12 < 2)) = true then
    (pspec_l01Below k vu.1 4).bind fun u8r =>
    (pspec_l03Var_d k u8r.2).bind fun u8s =>
    some (u8r.1, u8s)
  else
    if (decide (u12 < 4)) = true then
      if 0 ≤ (0 : Int) ∧ (0 : Int) ≤ 1 ∧ 1 ≤ ((bs [120, 32, 121]).size : Int) then
        (pspec_l01Pick k vu.1 [(bs [97]), (bs [98]), (bs [91, 93]), (bs [43]), (bs [66, 105, 103]), (bs [120, 32, 121]).extract ((0 : Int) : Int).toNat (1 : Int).toNat, (bs [58, 45]), (bs [61, 46, 46])]).bind fun u8t =>
        (pspec_l03Atom_d k u8t.2).bind fun u8u =>
        some (u8t.1, u8u)
      else none
    else
      if (decide (u12 < 6)) = true then
        (pspec_l01PickInt k vu.1 [0, 1, -7, 999999999]).bind fun u8v =>
        (pspec_l03Num_d k u8v.2).bind fun u8w =>
        some (u8v.1, u8w)
      else
        if (u12 == 6) = true then
          (rspec_l03Made_d vu.1 (wr.i64 (ut - 1))).bind fun u8x =>
          (rspec_l03Made_d u8x.1 (wr.i64 (ut - 1))).bind fun u6o =>
          (pspec_l03Two_d k (bs [46]) u8x.2 u6o.2).bind fun u8y =>
          some (u6o.1, u8y)
        else
          if (u12 == 7) = true then
            (pspec_l01Pick k vu.1 [(bs [43]), (bs [61]), (bs [44]), (bs [102]), (bs [59])]).bind fun ubv =>
            (rspec_l03Made_d ubv.1 (wr.i64 (ut - 1))).bind fun u8z =>
            (rspec_l03Made_d u8z.1 (wr.i64 (ut - 1))).bind fun u6p =>
            (pspec_l03Two_d k ubv.2 u8z.2 u6p.2).bind fun ux =>
            some (u6p.1, ux)
          else
            (pspec_l01Pick k vu.1 [(bs [102]), (bs [103]), (bs [45]), (bs [91, 93])]).bind fun u3v =>
            (pspec_l03Made_d_L2 k rspec_l03Made_d ut k 0 (GTerm.mk 4 u3v.2 0 []) u3v.1).bind fun out2 => match out2 with
            | .ret r => some r
            | .done (u5p, u90) =>
              some (u90, u5p)
mutual
def pspec_l03Made_d : Nat → GL01Cur → Int → Option (GL01Cur × GTerm)
  | 0, _, _ => none
  | k + 1, u49, ut =>
    (pspec_l01Below k u49 10).bind fun vu =>
    if (decide (ut ≤ 0)) = true then
      if (6 : Int) ≠ 0 then
        pspec_l03Made_d_J1 k (pspec_l03Made_d k) vu ut (Int.tmod vu.2 6)
      else none
    else
      pspec_l03Made_d_J1 k (pspec_l03Made_d k) vu ut vu.2
end
set_option maxHeartbeats 4000000 in
theorem all_pspec_l03Made_d : ∀ k : Nat, (∀ {u49 : GL01Cur} {ut : Int} {r : GL01Cur × GTerm}, pspec_l03Made_d k u49 ut = some r → FnO Try.prog 94 [.p (GL01Cur.q u49) [], .v (aI ut) []] (.v (.agg (GTerm.qx r.2)) (GTerm.h3_41t r.2)) [(0, .p (GL01Cur.q r.1) [])]) := by
  intro k
  induction k with
  | zero =>
    · intro u49 ut r h
      exact (onone (by rw [pspec_l03Made_d] at h; exact h)).elim
  | succ k ih =>
    have ih_pspec_l03Made_d := @ih
    · intro u49 ut r h
      rw [pspec_l03Made_d] at h
      refine FnO.o2 Try.func94 (rfl : Try.f94.body = some _) ?_
      intro w0 X0 Fin pv0 pb gt
      apply Wc.seq
      refine Wc.r0 ⟨[tP 0 1000000, tI 1 ut, tP 4 4], [(4, .cells GTerm.z [(3, .app 41)]), bC 1000000 (GL01Cur.q u49)], []⟩ ?_
      apply Wc.seq
      obtain ⟨vu, h766, h⟩ := obind h
      refine Wc.r2 [{}, { r := some (.v (aI vu.2) []), outs := [(0, .p (GL01Cur.q vu.1) [])] }] ⟨[tP 0 1000000, tI 1 ut, tP 4 4, tI 5 vu.2], [(4, .cells GTerm.z [(3, .app 41)]), bC 1000000 (GL01Cur.q vu.1)], []⟩ (.cons (cspec_l01Below h766) .nil) ?_
      refine Wc.seqJ (fun st => ∃ (u12 : Int), st = ⟨[tP 0 1000000, tI 1 ut, tP 4 4, tI 5 u12], [(4, .cells [aI 0, .str (bs []), aI 0, .slx] [(3, .ex 41 true (List.map GTerm.c []))]), bC 1000000 (GL01Cur.q vu.1)], []⟩ ∧ pspec_l03Made_d_J1 k (pspec_l03Made_d k) vu ut u12 = some r) ?_ ?_
      · apply Wc.seq
        refine Wc.r0 ⟨[tP 0 1000000, tI 1 ut, tP 4 4, tI 5 vu.2, tB 11 (decide (ut ≤ 0))], [(4, .cells GTerm.z [(3, .app 41)]), bC 1000000 (GL01Cur.q vu.1)], []⟩ ?_
        rcases oif h with ⟨h793, h⟩ | ⟨h793, h⟩
        · refine Wc.cT h793 ?_
          obtain ⟨h794, h⟩ := oguard h
          refine Wc.r3 [] [.ow (.b 4 3) true] ⟨[tP 0 1000000, tI 1 ut, tP 4 4, tI 5 (Int.tmod vu.2 6)], [(4, .cells [aI 0, .str (bs []), aI 0, .slx] [(3, .ex 41 true (List.map GTerm.c []))]), bC 1000000 (GL01Cur.q vu.1)], []⟩ (.cons h794 .nil) ?_
          exact ⟨_, rfl, h⟩
        · refine Wc.cF h793 ?_
          refine Wc.fx [.ow (.b 4 3) true] ⟨[tP 0 1000000, tI 1 ut, tP 4 4, tI 5 vu.2], [(4, .cells [aI 0, .str (bs []), aI 0, .slx] [(3, .ex 41 true (List.map GTerm.c []))]), bC 1000000 (GL01Cur.q vu.1)], []⟩ ?_
          refine Wc.skip ?_
          exact ⟨_, rfl, h⟩
      · rintro st ⟨u12, rfl, h⟩
        apply Wc.seq
        refine Wc.block ?_
        apply Wc.seq
        refine Wc.r0 ⟨[tP 0 1000000, tI 1 ut, tP 4 4, tI 5 u12, tB 14 (decide (u12 < 2))], [(4, .cells [aI 0, .str (bs []), aI 0, .slx] [(3, .ex 41 true (List.map GTerm.c []))]), bC 1000000 (GL01Cur.q vu.1)], []⟩ ?_
        rcases oif h with ⟨h767, h⟩ | ⟨h767, h⟩
        · refine Wc.cT h767 ?_
          apply Wc.seq
          obtain ⟨u8r, h768, h⟩ := obind h
          obtain ⟨u8s, h769, h⟩ := obind h
          refine Wc.r2 [{}, { r := some (.v (aI u8r.2) []), outs := [(0, .p (GL01Cur.q u8r.1) [])] }, { r := some (.v (.agg (GTerm.qx u8s)) (GTerm.h3_41t u8s)) }, { tk := [19] }] ⟨[tP 4 4], [(4, .cells (GTerm.qx u8s) (GTerm.h3_41t u8s)), bC 1000000 (GL01Cur.q u8r.1)], []⟩ (.cons (cspec_l01Below h768) (.cons (cspec_l03Var_d h769) .nil)) ?_
          obtain rfl := Option.some.inj h; exact Wc.ret dn
        · refine Wc.cF h767 ?_
          apply Wc.seq
          refine Wc.r0 ⟨[tP 0 1000000, tI 1 ut, tP 4 4, tI 5 u12, tB 20 (decide (u12 < 4))], [(4, .cells [aI 0, .str (bs []), aI 0, .slx] [(3, .ex 41 true (List.map GTerm.c []))]), bC 1000000 (GL01Cur.q vu.1)], []⟩ ?_
          rcases oif h with ⟨h770, h⟩ | ⟨h770, h⟩
          · refine Wc.cT h770 ?_
            apply Wc.seq
            obtain ⟨h771, h⟩ := oguard h
            obtain ⟨u8t, h772, h⟩ := obind h
            obtain ⟨u8u, h773, h⟩ := obind h
            refine Wc.r2 [{}, {}, { c := some (List.map cS [(bs [97]), (bs [98]), (bs [91, 93]), (bs [43]), (bs [66, 105, 103]), (bs [120, 32, 121]).extract ((0 : Int) : Int).toNat (1 : Int).toNat, (bs [58, 45]), (bs [61, 46, 46])]) }, { r := some (.v (.str u8t.2) []), outs := [(0, .p (GL01Cur.q u8t.1) [])] }, { r := some (.v (.agg (GTerm.qx u8u)) (GTerm.h3_41t u8u)) }, { tk := [27] }] ⟨[tP 4 4], [(4, .cells (GTerm.qx u8u) (GTerm.h3_41t u8u)), bC 1000000 (GL01Cur.q u8t.1)], []⟩ (.cons h771 (.cons (cl_cons (c := cS) (x := (bs [97])) rfl (cl_cons (c := cS) (x := (bs [98])) rfl (cl_cons (c := cS) (x := (bs [91, 93])) rfl (cl_cons (c := cS) (x := (bs [43])) rfl (cl_cons (c := cS) (x := (bs [66, 105, 103])) rfl (cl_cons (c := cS) (x := (bs [120, 32, 121]).extract ((0 : Int) : Int).toNat (1 : Int).toNat) rfl (cl_cons (c := cS) (x := (bs [58, 45])) rfl (cl_cons (c := cS) (x := (bs [61, 46, 46])) rfl (cl_nil cS))))))))) (.cons (cspec_l01Pick h772) (.cons (cspec_l03Atom_d h773) .nil)))) ?_
            obtain rfl := Option.some.inj h; exact Wc.ret dn
          · refine Wc.cF h770 ?_
            apply Wc.seq
            refine Wc.r0 ⟨[tP 0 1000000, tI 1 ut, tP 4 4, tI 5 u12, tB 28 (decide (u12 < 6))], [(4, .cells [aI 0, .str (bs []), aI 0, .slx] [(3, .ex 41 true (List.map GTerm.c []))]), bC 1000000 (GL01Cur.q vu.1)], []⟩ ?_
            rcases oif h with ⟨h774, h⟩ | ⟨h774, h⟩
            · refine Wc.cT h774 ?_
              apply Wc.seq
              obtain ⟨u8v, h775, h⟩ := obind h
              obtain ⟨u8w, h776, h⟩ := obind h
              refine Wc.r2 [{}, { c := some (List.map cI.i64 [0, 1, -7, 999999999]) }, { r := some (.v (aI u8v.2) []), outs := [(0, .p (GL01Cur.q u8v.1) [])] }, { r := some (.v (.agg (GTerm.qx u8w)) (GTerm.h3_41t u8w)) }, { tk := [34] }] ⟨[tP 4 4], [(4, .cells (GTerm.qx u8w) (GTerm.h3_41t u8w)), bC 1000000 (GL01Cur.q u8v.1)], []⟩ (.cons (cl_cons (c := cI.i64) (x := 0) rfl (cl_cons (c := cI.i64) (x := 1) rfl (cl_cons (c := cI.i64) (x := -7) rfl (cl_cons (c := cI.i64) (x := 999999999) rfl (cl_nil cI.i64))))) (.cons (cspec_l01PickInt h775) (.cons (cspec_l03Num_d h776) .nil))) ?_
              obtain rfl := Option.some.inj h; exact Wc.ret dn
            · refine Wc.cF h774 ?_
              apply Wc.seq
              refine Wc.r0 ⟨[tP 0 1000000, tI 1 ut, tP 4 4, tI 5 u12, tB 35 (u12 == 6)], [(4, .cells [aI 0, .str (bs []), aI 0, .slx] [(3, .ex 41 true (List.map GTerm.c []))]), bC 1000000 (GL01Cur.q vu.1)], []⟩ ?_
              rcases oif h with ⟨h777, h⟩ | ⟨h777, h⟩
              · refine Wc.cT h777 ?_
                apply Wc.seq
                obtain ⟨u8x, h778, h⟩ := obind h
                obtain ⟨u6o, h779, h⟩ := obind h
                obtain ⟨u8y, h780, h⟩ := obind h
                refine Wc.r2 [{}, {}, {}, { r := some (.v (.agg (GTerm.qx u8x.2)) (GTerm.h3_41t u8x.2)), outs := [(0, .p (GL01Cur.q u8x.1) [])] }, {}, {}, {}, { r := some (.v (.agg (GTerm.qx u6o.2)) (GTerm.h3_41t u6o.2)), outs := [(0, .p (GL01Cur.q u6o.1) [])] }, { tk := [41, 45], r := some (.v (.agg (GTerm.qx u8y)) (GTerm.h3_41t u8y)) }, { tk := [46] }] ⟨[tP 4 4], [(4, .cells (GTerm.qx u8y) (GTerm.h3_41t u8y)), bC 1000000 (GL01Cur.q u6o.1)], []⟩ (.cons (ih_pspec_l03Made_d h778) (.cons (ih_pspec_l03Made_d h779) (.cons (cspec_l03Two_d h780) .nil))) ?_
                obtain rfl := Option.some.inj h; exact Wc.ret dn
              · refine Wc.cF h777 ?_
                apply Wc.seq
                refine Wc.r0 ⟨[tP 0 1000000, tI 1 ut, tP 4 4, tB 47 (u12 == 7)], [(4, .cells [aI 0, .str (bs []), aI 0, .slx] [(3, .ex 41 true (List.map GTerm.c []))]), bC 1000000 (GL01Cur.q vu.1)], []⟩ ?_
                rcases oif h with ⟨h781, h⟩ | ⟨h781, h⟩
                · refine Wc.cT h781 ?_
                  apply Wc.seq
                  obtain ⟨ubv, h782, h⟩ := obind h
                  obtain ⟨u8z, h783, h⟩ := obind h
                  obtain ⟨u6p, h784, h⟩ := obind h
                  obtain ⟨ux, h785, h⟩ := obind h
                  refine Wc.r2 [{}, { c := some (List.map cS [(bs [43]), (bs [61]), (bs [44]), (bs [102]), (bs [59])]) }, { r := some (.v (.str ubv.2) []), outs := [(0, .p (GL01Cur.q ubv.1) [])] }, {}, {}, {}, { r := some (.v (.agg (GTerm.qx u8z.2)) (GTerm.h3_41t u8z.2)), outs := [(0, .p (GL01Cur.q u8z.1) [])] }, {}, {}, {}, { r := some (.v (.agg (GTerm.qx u6p.2)) (GTerm.h3_41t u6p.2)), outs := [(0, .p (GL01Cur.q u6p.1) [])] }, { tk := [56, 60], r := some (.v (.agg (GTerm.qx ux)) (GTerm.h3_41t ux)) }, { tk := [61] }] ⟨[tP 4 4], [(4, .cells (GTerm.qx ux) (GTerm.h3_41t ux)), bC 1000000 (GL01Cur.q u6p.1)], []⟩ (.cons (cl_cons (c := cS) (x := (bs [43])) rfl (cl_cons (c := cS) (x := (bs [61])) rfl (cl_cons (c := cS) (x := (bs [44])) rfl (cl_cons (c := cS) (x := (bs [102])) rfl (cl_cons (c := cS) (x := (bs [59])) rfl (cl_nil cS)))))) (.cons (cspec_l01Pick h782) (.cons (ih_pspec_l03Made_d h783) (.cons (ih_pspec_l03Made_d h784) (.cons (cspec_l03Two_d h785) .nil))))) ?_
                  obtain rfl := Option.some.inj h; exact Wc.ret dn
                · refine Wc.cF h781 ?_
                  refine Wc.fx [] ⟨[tP 0 1000000, tI 1 ut, tP 4 4], [(4, .cells [aI 0, .str (bs []), aI 0, .slx] [(3, .ex 41 true (List.map GTerm.c []))]), bC 1000000 (GL01Cur.q vu.1)], []⟩ ?_
                  refine Wc.skip ?_
                  apply Wc.seq
                  obtain ⟨u3v, h786, h⟩ := obind h
                  refine Wc.r2 [{}, { c := some (List.map cS [(bs [102]), (bs [103]), (bs [45]), (bs [91, 93])]) }, { r := some (.v (.str u3v.2) []), outs := [(0, .p (GL01Cur.q u3v.1) [])] }, {}, {}, { tk := [65] }] ⟨[tP 0 1000000, tI 1 ut, tP 4 4, tP 6 6], [(4, .cells [aI 0, .str (bs []), aI 0, .slx] [(3, .ex 41 true (List.map GTerm.c []))]), (6, .cells [aI 4, .str u3v.2, aI 0, .sl (List.map GTerm.c [])] [(3, .app 41)]), bC 1000000 (GL01Cur.q u3v.1)], []⟩ (.cons (cl_cons (c := cS) (x := (bs [102])) rfl (cl_cons (c := cS) (x := (bs [103])) rfl (cl_cons (c := cS) (x := (bs [45])) rfl (cl_cons (c := cS) (x := (bs [91, 93])) rfl (cl_nil cS))))) (.cons (cspec_l01Pick h786) .nil)) ?_
                  apply Wc.seq
                  apply Wc.seq
                  refine Wc.r0 ⟨[tP 0 1000000, tI 1 ut, tP 4 4, tP 6 6, tI 7 0], [(4, .cells [aI 0, .str (bs []), aI 0, .slx] [(3, .ex 41 true (List.map GTerm.c []))]), (6, .cells [aI 4, .str u3v.2, aI 0, .sl (List.map GTerm.c [])] [(3, .app 41)]), bC 1000000 (GL01Cur.q u3v.1)], []⟩ ?_
                  obtain ⟨out2, h787, h⟩ := obind h
                  refine Wc.lastJ (fun st => ∃ (u5p : GTerm) (u90 : GL01Cur), out2 = .done (u5p, u90) ∧ st = ⟨[tP 4 4, tP 6 6], [(4, .cells [aI 0, .str (bs []), aI 0, .slx] [(3, .ex 41 true (List.map GTerm.c []))]), (6, .cells (GTerm.qx u5p) (GTerm.h3_41t u5p)), bC 1000000 (GL01Cur.q u90)], []⟩) ?_ ?_
                  · refine Wc.block ?_
                    refine Wc.fx [.ow (.b 6 3) true] ⟨[tP 0 1000000, tI 1 ut, tP 4 4, tP 6 6, tI 7 0], [(4, .cells [aI 0, .str (bs []), aI 0, .slx] [(3, .ex 41 true (List.map GTerm.c []))]), (6, .cells [aI 4, .str u3v.2, aI 0, .slx] [(3, .ex 41 true (List.map GTerm.c []))]), bC 1000000 (GL01Cur.q u3v.1)], []⟩ ?_
                    refine Wc.loop (fun m st => ∃ (u29 : Int) (v6 : GTerm) (ubu : GL01Cur), st = ⟨[tP 0 1000000, tI 1 ut, tP 4 4, tP 6 6, tI 7 u29], [(4, .cells [aI 0, .str (bs []), aI 0, .slx] [(3, .ex 41 true (List.map GTerm.c []))]), (6, .cells (GTerm.qx v6) (GTerm.h3_41t v6)), bC 1000000 (GL01Cur.q ubu)], []⟩ ∧ pspec_l03Made_d_L2 k (pspec_l03Made_d k) ut m u29 v6 ubu = some out2) ?_ k ⟨_, _, _, rfl, h787⟩
                    rintro m st ⟨u29, v6, ubu, rfl, h787⟩
                    cases m with
                    | zero => exact (onone h787).elim
                    | succ m =>
                      apply Wc.seq
                      apply Wc.seq
                      obtain ⟨u2p, h788, h787⟩ := obind h787
                      refine Wc.r2 [{}, {}, { r := some (.v (aI u2p.2) []), outs := [(0, .p (GL01Cur.q u2p.1) [])] }] ⟨[tP 0 1000000, tI 1 ut, tP 4 4, tP 6 6, tI 7 u29, tB 70 (decide (u29 < (wr.i64 (1 + u2p.2))))], [(4, .cells [aI 0, .str (bs []), aI 0, .slx] [(3, .ex 41 true (List.map GTerm.c []))]), (6, .cells (GTerm.qx v6) (GTerm.h3_41t v6)), bC 1000000 (GL01Cur.q u2p.1)], []⟩ (.cons (cspec_l01Below h788) .nil) ?_
                      rcases oif h787 with ⟨h789, h787⟩ | ⟨h789, h787⟩
                      · refine Wc.cT h789 ?_
                        refine Wc.fx [] ⟨[tP 0 1000000, tI 1 ut, tP 4 4, tP 6 6, tI 7 u29], [(4, .cells [aI 0, .str (bs []), aI 0, .slx] [(3, .ex 41 true (List.map GTerm.c []))]), (6, .cells (GTerm.qx v6) (GTerm.h3_41t v6)), bC 1000000 (GL01Cur.q u2p.1)], []⟩ ?_
                        refine Wc.skip ?_
                        apply Wc.seq
                        refine Wc.block ?_
                        apply Wc.seq
                        refine Wc.r2 [{}, {}, { v := some (aI (v6.gKids.length : Int)) }] ⟨[tP 0 1000000, tI 1 ut, tP 4 4, tP 6 6, tI 7 u29, tB 76 (decide ((v6.gKids.length : Int) < 5))], [(4, .cells [aI 0, .str (bs []), aI 0, .slx] [(3, .ex 41 true (List.map GTerm.c []))]), (6, .cells (GTerm.qx v6) (GTerm.h3_41t v6)), bC 1000000 (GL01Cur.q u2p.1)], []⟩ (.cons (len_obl GTerm.c v6.gKids) .nil) ?_
                        rcases oif h787 with ⟨h790, h787⟩ | ⟨h790, h787⟩
                        · refine Wc.cT h790 ?_
                          obtain ⟨u1d, h791, h787⟩ := obind h787
                          obtain ⟨h792, h787⟩ := oguard h787
                          refine Wc.draw hmix [{}, { md := 1 }, {}, {}, {}, { r := some (.v (.agg (GTerm.qx u1d.2)) (GTerm.h3_41t u1d.2)), outs := [(0, .p (GL01Cur.q u1d.1) [])] }, { c := some (List.map GTerm.c [u1d.2]), tk := [82], md := 2 }, { c := some (List.map GTerm.c (v6.gKids ++ [u1d.2])), tk := [78, 83], md := 2 }, {}, { tk := [84] }] [] [0, 1, 4, 6, 7] [4, 6, 1000000] [] ⟨[tP 0 1000000, tI 1 ut, tP 4 4, tP 6 6, tI 7 u29], [(4, .cells [aI 0, .str (bs []), aI 0, .slx] [(3, .ex 41 true (List.map GTerm.c []))]), (6, .cells (GTerm.qx v6) [(3, .ex 41 true (List.map GTerm.c (v6.gKids ++ [u1d.2])))]), bC 1000000 (GL01Cur.q u1d.1)], []⟩ _ (by kernel_rfl) (fun X => by kernel_rfl) (.cons (ih_pspec_l03Made_d h791) (.cons (cl_cons (c := GTerm.c) (x := u1d.2) (GTerm.c_eq u1d.2) (cl_nil GTerm.c)) (.cons (app_re2 GTerm.c v6.gKids [u1d.2]) (.cons (app_obl2 (c := GTerm.c) (xs := v6.gKids) (ys := [u1d.2]) GTerm.c_len h792) .nil)))) ?_
                          refine Wc.r0 ⟨[tP 0 1000000, tI 1 ut, tP 4 4, tP 6 6, tI 7 (wr.i64 (u29 + 1))], [(4, .cells [aI 0, .str (bs []), aI 0, .slx] [(3, .ex 41 true (List.map GTerm.c []))]), (6, .cells (GTerm.qx v6) [(3, .ex 41 true (List.map GTerm.c (v6.gKids ++ [u1d.2])))]), bC 1000000 (GL01Cur.q u1d.1)], []⟩ ?_
                          exact ⟨_, Nat.lt_succ_self _, _, _, _, rfl, h787⟩
                        · refine Wc.cF h790 ?_
                          refine Wc.fx [] ⟨[tP 0 1000000, tI 1 ut, tP 4 4, tP 6 6, tI 7 u29], [(4, .cells [aI 0, .str (bs []), aI 0, .slx] [(3, .ex 41 true (List.map GTerm.c []))]), (6, .cells (GTerm.qx v6) (GTerm.h3_41t v6)), bC 1000000 (GL01Cur.q u2p.1)], []⟩ ?_
                          refine Wc.skip ?_
                          refine Wc.r0 ⟨[tP 0 1000000, tI 1 ut, tP 4 4, tP 6 6, tI 7 (wr.i64 (u29 + 1))], [(4, .cells [aI 0, .str (bs []), aI 0, .slx] [(3, .ex 41 true (List.map GTerm.c []))]), (6, .cells (GTerm.qx v6) (GTerm.h3_41t v6)), bC 1000000 (GL01Cur.q u2p.1)], []⟩ ?_
                          exact ⟨_, Nat.lt_succ_self _, _, _, _, rfl, h787⟩
                      · refine Wc.cF h789 ?_
                        refine Wc.fx [] ⟨[tP 4 4, tP 6 6], [(4, .cells [aI 0, .str (bs []), aI 0, .slx] [(3, .ex 41 true (List.map GTerm.c []))]), (6, .cells (GTerm.qx v6) (GTerm.h3_41t v6)), bC 1000000 (GL01Cur.q u2p.1)], []⟩ ?_
                        refine Wc.exit ?_
                        obtain rfl := Option.some.inj h787
                        exact ⟨_, _, rfl, rfl⟩
                  · rintro st ⟨u5p, u90, rfl, rfl⟩
                    apply Wc.seq
                    refine Wc.r1 [{ md := 1 }, { tk := [86] }] ⟨[tP 4 4], [(4, .cells (GTerm.qx u5p) (GTerm.h3_41t u5p)), bC 1000000 (GL01Cur.q u90)], []⟩ ?_
                    obtain rfl := Option.some.inj h; exact Wc.ret dn
theorem cspec_l03Made_d {k : Nat} {u49 : GL01Cur} {ut : Int} {r : GL01Cur × GTerm} (h : pspec_l03Made_d k u49 ut = some r) : FnO Try.prog 94 [.p (GL01Cur.q u49) [], .v (aI ut) []] (.v (.agg (GTerm.qx r.2)) (GTerm.h3_41t r.2)) [(0, .p (GL01Cur.q r.1) [])] := (all_pspec_l03Made_d k) h

def pspec_l03Any_d_L1 (k : Nat) (v5 : GL01Cur × Int) : Nat → Int → GTerm → Option (Out (GL01Cur × GTerm) GTerm)
  | 0, _, _ => none
  | m + 1, u0u, u13 =>
    if (4 : Int) ≠ 0 then
      if (decide (u0u < (wr.i64 (38 + (Int.tmod v5.2 4))))) = true then
        pspec_l03Any_d_L1 k v5 m (wr.i64 (u0u + 1)) (GTerm.mk 4 (bs [115]) 0 [u13])
      else
        some (.done u13)
    else none
def pspec_l03Any_d (k : Nat) (ubw : GL01Cur) : Option (GL01Cur × GTerm) :=
  (pspec_l01Below k ubw 12).bind fun u0p =>
  (pspec_l01Below k u0p.1 60).bind fun v5 =>
  (pspec_l03Made_d k v5.1 3).bind fun u7 =>
  if (u0p.2 == 0) = true then
    if (6 : Int) ≠ 0 then
      some (u7.1, GTerm.mk (Int.tmod v5.2 6) u7.2.gName u7.2.gNum u7.2.gKids)
    else none
  else
    if (u0p.2 == 1) = true then
      if (4 : Int) ≠ 0 then
        (at' [(bs []), (bs [97, 32, 98]), (bs [39]), (bs [97, 97, 97, 97, 97, 97, 97, 97, 97, 97, 97, 97, 97, 97, 97, 97, 97, 97, 97, 97, 97])] (Int.tmod v5.2 4)).bind fun u91 =>
        some (u7.1, GTerm.mk u7.2.gKind u91 u7.2.gNum u7.2.gKids)
      else none
    else
      if (u0p.2 == 2) = true then
        if (3 : Int) ≠ 0 then
          (at' [-1, 100000, 1000000000] (Int.tmod v5.2 3)).bind fun u92 =>
          some (u7.1, GTerm.mk u7.2.gKind u7.2.gName u92 u7.2.gKids)
        else none
      else
        if (u0p.2 == 3) = true then
          (pspec_l03Any_d_L1 k v5 k 0 u7.2).bind fun out1 => match out1 with
          | .ret r => some r
          | .done u5q =>
            some (u7.1, u5q)
        else
          some (u7.1, u7.2)
set_option maxHeartbeats 4000000 in
theorem cspec_l03Any_d {k : Nat} {ubw : GL01Cur} {r : GL01Cur × GTerm} (h : pspec_l03Any_d k ubw = some r) : FnO Try.prog 56 [.p (GL01Cur.q ubw) []] (.v (.agg (GTerm.qx r.2)) (GTerm.h3_41t r.2)) [(0, .p (GL01Cur.q r.1) [])] := by
  refine FnO.o2 Try.func56 (rfl : Try.f56.body = some _) ?_
  intro w0 X0 Fin pv0 pb gt
  unfold pspec_l03Any_d at h
  apply Wc.seq
  refine Wc.r0 ⟨[tP 0 1000000, tP 2 2], [(2, .cells GTerm.z [(3, .app 41)]), bC 1000000 (GL01Cur.q ubw)], []⟩ ?_
  apply Wc.seq
  obtain ⟨u0p, h750, h⟩ := obind h
  refine Wc.r2 [{}, { r := some (.v (aI u0p.2) []), outs := [(0, .p (GL01Cur.q u0p.1) [])] }] ⟨[tP 0 1000000, tP 2 2, tI 3 u0p.2], [(2, .cells GTerm.z [(3, .app 41)]), bC 1000000 (GL01Cur.q u0p.1)], []⟩ (.cons (cspec_l01Below h750) .nil) ?_
  apply Wc.seq
  obtain ⟨v5, h751, h⟩ := obind h
  refine Wc.r2 [{}, { r := some (.v (aI v5.2) []), outs := [(0, .p (GL01Cur.q v5.1) [])] }] ⟨[tP 0 1000000, tP 2 2, tI 3 u0p.2, tI 4 v5.2], [(2, .cells GTerm.z [(3, .app 41)]), bC 1000000 (GL01Cur.q v5.1)], []⟩ (.cons (cspec_l01Below h751) .nil) ?_
  apply Wc.seq
  obtain ⟨u7, h752, h⟩ := obind h
  refine Wc.r2 [{}, { r := some (.v (.agg (GTerm.qx u7.2)) (GTerm.h3_41t u7.2)), outs := [(0, .p (GL01Cur.q u7.1) [])] }, {}, { tk := [12] }] ⟨[tP 2 2, tI 3 u0p.2, tI 4 v5.2, tP 5 5], [(2, .cells GTerm.z [(3, .app 41)]), (5, .cells (GTerm.qx u7.2) (GTerm.h3_41t u7.2)), bC 1000000 (GL01Cur.q u7.1)], []⟩ (.cons (cspec_l03Made_d h752) .nil) ?_
  apply Wc.seq
  apply Wc.seq
  refine Wc.r0 ⟨[tP 2 2, tI 4 v5.2, tP 5 5, tI 13 u0p.2], [(2, .cells GTerm.z [(3, .app 41)]), (5, .cells (GTerm.qx u7.2) (GTerm.h3_41t u7.2)), bC 1000000 (GL01Cur.q u7.1)], []⟩ ?_
  refine Wc.block ?_
  apply Wc.seq
  refine Wc.r0 ⟨[tP 2 2, tI 4 v5.2, tP 5 5, tI 13 u0p.2, tB 14 (u0p.2 == 0)], [(2, .cells GTerm.z [(3, .app 41)]), (5, .cells (GTerm.qx u7.2) (GTerm.h3_41t u7.2)), bC 1000000 (GL01Cur.q u7.1)], []⟩ ?_
  rcases oif h with ⟨h753, h⟩ | ⟨h753, h⟩
  · refine Wc.cT h753 ?_
    obtain ⟨h754, h⟩ := oguard h
    refine Wc.r2 [] ⟨[tP 2 2, tP 5 5], [(2, .cells GTerm.z [(3, .app 41)]), (5, .cells [aI (Int.tmod v5.2 6), .str u7.2.gName, aI u7.2.gNum, .slx] (GTerm.h3_41t u7.2)), bC 1000000 (GL01Cur.q u7.1)], []⟩ (.cons h754 .nil) ?_
    apply Wc.seq
    refine Wc.r1 [{ md := 1 }, { tk := [47] }] ⟨[tP 2 2], [(2, .cells [aI (Int.tmod v5.2 6), .str u7.2.gName, aI u7.2.gNum, .slx] (GTerm.h3_41t u7.2)), bC 1000000 (GL01Cur.q u7.1)], []⟩ ?_
    obtain rfl := Option.some.inj h; exact Wc.ret dn
  · refine Wc.cF h753 ?_
    apply Wc.seq
    refine Wc.r0 ⟨[tP 2 2, tI 4 v5.2, tP 5 5, tI 13 u0p.2, tB 19 (u0p.2 == 1)], [(2, .cells GTerm.z [(3, .app 41)]), (5, .cells (GTerm.qx u7.2) (GTerm.h3_41t u7.2)), bC 1000000 (GL01Cur.q u7.1)], []⟩ ?_
    rcases oif h with ⟨h755, h⟩ | ⟨h755, h⟩
    · refine Wc.cT h755 ?_
      obtain ⟨h756, h⟩ := oguard h
      obtain ⟨u91, h757, h⟩ := obind h
      refine Wc.r2 [{ c := some (List.map cS [(bs []), (bs [97, 32, 98]), (bs [39]), (bs [97, 97, 97, 97, 97, 97, 97, 97, 97, 97, 97, 97, 97, 97, 97, 97, 97, 97, 97, 97, 97])]) }, {}, {}, { v := some (.vptr [.str u91]) }] ⟨[tP 2 2, tP 5 5], [(2, .cells GTerm.z [(3, .app 41)]), (5, .cells [aI u7.2.gKind, .str u91, aI u7.2.gNum, .slx] (GTerm.h3_41t u7.2)), bC 1000000 (GL01Cur.q u7.1)], []⟩ (.cons (cl_cons (c := cS) (x := (bs [])) rfl (cl_cons (c := cS) (x := (bs [97, 32, 98])) rfl (cl_cons (c := cS) (x := (bs [39])) rfl (cl_cons (c := cS) (x := (bs [97, 97, 97, 97, 97, 97, 97, 97, 97, 97, 97, 97, 97, 97, 97, 97, 97, 97, 97, 97, 97])) rfl (cl_nil cS))))) (.cons h756 (.cons (at_obl (c := cS) rfl cS_len h757) (.cons (len_ok 1 [.str u91]) .nil)))) ?_
      apply Wc.seq
      refine Wc.r1 [{ md := 1 }, { tk := [47] }] ⟨[tP 2 2], [(2, .cells [aI u7.2.gKind, .str u91, aI u7.2.gNum, .slx] (GTerm.h3_41t u7.2)), bC 1000000 (GL01Cur.q u7.1)], []⟩ ?_
      obtain rfl := Option.some.inj h; exact Wc.ret dn
    · refine Wc.cF h755 ?_
      apply Wc.seq
      refine Wc.r0 ⟨[tP 2 2, tI 4 v5.2, tP 5 5, tI 13 u0p.2, tB 27 (u0p.2 == 2)], [(2, .cells GTerm.z [(3, .app 41)]), (5, .cells (GTerm.qx u7.2) (GTerm.h3_41t u7.2)), bC 1000000 (GL01Cur.q u7.1)], []⟩ ?_
      rcases oif h with ⟨h758, h⟩ | ⟨h758, h⟩
      · refine Wc.cT h758 ?_
        obtain ⟨h759, h⟩ := oguard h
        obtain ⟨u92, h760, h⟩ := obind h
        refine Wc.r2 [{ c := some (List.map cI.i64 [-1, 100000, 1000000000]) }, {}, {}, { v := some (.vptr [aI u92]) }] ⟨[tP 2 2, tP 5 5], [(2, .cells GTerm.z [(3, .app 41)]), (5, .cells [aI u7.2.gKind, .str u7.2.gName, aI u92, .slx] (GTerm.h3_41t u7.2)), bC 1000000 (GL01Cur.q u7.1)], []⟩ (.cons (cl_cons (c := cI.i64) (x := -1) rfl (cl_cons (c := cI.i64) (x := 100000) rfl (cl_cons (c := cI.i64) (x := 1000000000) rfl (cl_nil cI.i64)))) (.cons h759 (.cons (at_obl (c := cI.i64) rfl cI.i64_len h760) (.cons (len_ok 1 [aI u92]) .nil)))) ?_
        apply Wc.seq
        refine Wc.r1 [{ md := 1 }, { tk := [47] }] ⟨[tP 2 2], [(2, .cells [aI u7.2.gKind, .str u7.2.gName, aI u92, .slx] (GTerm.h3_41t u7.2)), bC 1000000 (GL01Cur.q u7.1)], []⟩ ?_
        obtain rfl := Option.some.inj h; exact Wc.ret dn
      · refine Wc.cF h758 ?_
        apply Wc.seq
        refine Wc.r0 ⟨[tP 2 2, tI 4 v5.2, tP 5 5, tB 35 (u0p.2 == 3)], [(2, .cells GTerm.z [(3, .app 41)]), (5, .cells (GTerm.qx u7.2) (GTerm.h3_41t u7.2)), bC 1000000 (GL01Cur.q u7.1)], []⟩ ?_
        rcases oif h with ⟨h761, h⟩ | ⟨h761, h⟩
        · refine Wc.cT h761 ?_
          apply Wc.seq
          refine Wc.r0 ⟨[tP 2 2, tI 4 v5.2, tP 5 5, tI 6 0], [(2, .cells GTerm.z [(3, .app 41)]), (5, .cells (GTerm.qx u7.2) (GTerm.h3_41t u7.2)), bC 1000000 (GL01Cur.q u7.1)], []⟩ ?_
          obtain ⟨out1, h762, h⟩ := obind h
          refine Wc.lastJ (fun st => ∃ (u5q : GTerm), out1 = .done u5q ∧ st = ⟨[tP 2 2, tP 5 5], [(2, .cells [aI 0, .str (bs []), aI 0, .slx] [(3, .ex 41 true (List.map GTerm.c []))]), (5, .cells (GTerm.qx u5q) (GTerm.h3_41t u5q)), bC 1000000 (GL01Cur.q u7.1)], []⟩) ?_ ?_
          · refine Wc.block ?_
            refine Wc.fx [.ow (.b 2 3) true] ⟨[tP 2 2, tI 4 v5.2, tP 5 5, tI 6 0], [(2, .cells [aI 0, .str (bs []), aI 0, .slx] [(3, .ex 41 true (List.map GTerm.c []))]), (5, .cells (GTerm.qx u7.2) (GTerm.h3_41t u7.2)), bC 1000000 (GL01Cur.q u7.1)], []⟩ ?_
            refine Wc.loop (fun m st => ∃ (u0u : Int) (u13 : GTerm), st = ⟨[tP 2 2, tI 4 v5.2, tP 5 5, tI 6 u0u], [(2, .cells [aI 0, .str (bs []), aI 0, .slx] [(3, .ex 41 true (List.map GTerm.c []))]), (5, .cells (GTerm.qx u13) (GTerm.h3_41t u13)), bC 1000000 (GL01Cur.q u7.1)], []⟩ ∧ pspec_l03Any_d_L1 k v5 m u0u u13 = some out1) ?_ k ⟨_, _, rfl, h762⟩
            rintro m st ⟨u0u, u13, rfl, h762⟩
            cases m with
            | zero => exact (onone h762).elim
            | succ m =>
              apply Wc.seq
              apply Wc.seq
              obtain ⟨h763, h762⟩ := oguard h762
              refine Wc.r2 [] ⟨[tP 2 2, tI 4 v5.2, tP 5 5, tI 6 u0u, tB 41 (decide (u0u < (wr.i64 (38 + (Int.tmod v5.2 4)))))], [(2, .cells [aI 0, .str (bs []), aI 0, .slx] [(3, .ex 41 true (List.map GTerm.c []))]), (5, .cells (GTerm.qx u13) (GTerm.h3_41t u13)), bC 1000000 (GL01Cur.q u7.1)], []⟩ (.cons h763 .nil) ?_
              rcases oif h762 with ⟨h764, h762⟩ | ⟨h764, h762⟩
              · refine Wc.cT h764 ?_
                refine Wc.fx [] ⟨[tP 2 2, tI 4 v5.2, tP 5 5, tI 6 u0u], [(2, .cells [aI 0, .str (bs []), aI 0, .slx] [(3, .ex 41 true (List.map GTerm.c []))]), (5, .cells (GTerm.qx u13) (GTerm.h3_41t u13)), bC 1000000 (GL01Cur.q u7.1)], []⟩ ?_
                refine Wc.skip ?_
                apply Wc.seq
                refine Wc.block ?_
                refine Wc.r2 [{ md := 1 }, { c := some (List.map GTerm.c [u13]), tk := [44], md := 2 }, { tk := [45] }, { tk := [46] }] ⟨[tP 2 2, tI 4 v5.2, tP 5 5, tI 6 u0u], [(2, .cells [aI 0, .str (bs []), aI 0, .slx] [(3, .ex 41 true (List.map GTerm.c []))]), (5, .cells [aI 4, .str (bs [115]), aI 0, .slx] [(3, .ex 41 true (List.map GTerm.c [u13]))]), bC 1000000 (GL01Cur.q u7.1)], []⟩ (.cons (cl_cons (c := GTerm.c) (x := u13) (GTerm.c_eq u13) (cl_nil GTerm.c)) .nil) ?_
                refine Wc.r0 ⟨[tP 2 2, tI 4 v5.2, tP 5 5, tI 6 (wr.i64 (u0u + 1))], [(2, .cells [aI 0, .str (bs []), aI 0, .slx] [(3, .ex 41 true (List.map GTerm.c []))]), (5, .cells [aI 4, .str (bs [115]), aI 0, .slx] [(3, .ex 41 true (List.map GTerm.c [u13]))]), bC 1000000 (GL01Cur.q u7.1)], []⟩ ?_
                exact ⟨_, Nat.lt_succ_self _, _, _, rfl, h762⟩
              · refine Wc.cF h764 ?_
                refine Wc.fx [] ⟨[tP 2 2, tP 5 5], [(2, .cells [aI 0, .str (bs []), aI 0, .slx] [(3, .ex 41 true (List.map GTerm.c []))]), (5, .cells (GTerm.qx u13) (GTerm.h3_41t u13)), bC 1000000 (GL01Cur.q u7.1)], []⟩ ?_
                refine Wc.exit ?_
                obtain rfl := Option.some.inj h762
                exact ⟨_, rfl, rfl⟩
          · rintro st ⟨u5q, rfl, rfl⟩
            apply Wc.seq
            refine Wc.r1 [{ md := 1 }, { tk := [47] }] ⟨[tP 2 2], [(2, .cells (GTerm.qx u5q) (GTerm.h3_41t u5q)), bC 1000000 (GL01Cur.q u7.1)], []⟩ ?_
            obtain rfl := Option.some.inj h; exact Wc.ret dn
        · refine Wc.cF h761 ?_
          refine Wc.fx [] ⟨[tP 2 2, tP 5 5], [(2, .cells GTerm.z [(3, .app 41)]), (5, .cells (GTerm.qx u7.2) (GTerm.h3_41t u7.2)), bC 1000000 (GL01Cur.q u7.1)], []⟩ ?_
          refine Wc.skip ?_
          apply Wc.seq
          refine Wc.r1 [{ md := 1 }, { tk := [47] }] ⟨[tP 2 2], [(2, .cells (GTerm.qx u7.2) (GTerm.h3_41t u7.2)), bC 1000000 (GL01Cur.q u7.1)], []⟩ ?_
          obtain rfl := Option.some.inj h; exact Wc.ret dn

def pspec_l04Any (k : Nat) (ubx : GL01Cur) : Option (GL01Cur × GBinds) :=
  (pspec_l01Below k ubx 10).bind fun u1u =>
  (pspec_l04Binds_d k u1u.1).bind fun un =>
  if (u1u.2 == 0) = true then
    (pspec_l03Var_d k 1).bind fun u32 =>
    (at' un.2.gList 0).bind fun ued =>
    (pspec_l03Var_d k 0).bind fun u4a =>
    (at' (un.2.gList.set (((0 : Int)).toNat) u32) 1).bind fun uee =>
    some (un.1, GBinds.mk ((un.2.gList.set (((0 : Int)).toNat) u32).set (((1 : Int)).toNat) u4a))
  else
    if (u1u.2 == 1) = true then
      (pspec_l03Any_d k un.1).bind fun u2a =>
      (at' un.2.gList 2).bind fun uef =>
      some (u2a.1, GBinds.mk (un.2.gList.set (((2 : Int)).toNat) u2a.2))
    else
      if (u1u.2 == 2) = true then
        if 0 ≤ (2 : Int) ∧ (2 : Int) ≤ (un.2.gList.length : Int) then
          some (un.1, GBinds.mk (un.2.gList.take ((2 : Int)).toNat))
        else none
      else
        some (un.1, un.2)
set_option maxHeartbeats 4000000 in
theorem cspec_l04Any {k : Nat} {ubx : GL01Cur} {r : GL01Cur × GBinds} (h : pspec_l04Any k ubx = some r) : FnO Try.prog 57 [.p (GL01Cur.q ubx) []] (.v (.agg [.sl (List.map GTerm.c r.2.gList)]) []) [(0, .p (GL01Cur.q r.1) [])] := by
  refine FnO.o2 Try.func57 (rfl : Try.f57.body = some _) ?_
  intro w0 X0 Fin pv0 pb gt
  unfold pspec_l04Any at h
  apply Wc.seq
  refine Wc.r0 ⟨[tP 0 1000000, tP 2 2], [(2, .cells GBinds.z [(0, .app 41)]), bC 1000000 (GL01Cur.q ubx)], []⟩ ?_
  apply Wc.seq
  obtain ⟨u1u, h727, h⟩ := obind h
  refine Wc.r2 [{}, { r := some (.v (aI u1u.2) []), outs := [(0, .p (GL01Cur.q u1u.1) [])] }] ⟨[tP 0 1000000, tP 2 2, tI 3 u1u.2], [(2, .cells GBinds.z [(0, .app 41)]), bC 1000000 (GL01Cur.q u1u.1)], []⟩ (.cons (cspec_l01Below h727) .nil) ?_
  apply Wc.seq
  obtain ⟨un, h728, h⟩ := obind h
  refine Wc.r2 [{}, { r := some (.v (.agg [.slx]) (GL04Fill.h0_41t un.2.gList)), outs := [(0, .p (GL01Cur.q un.1) [])] }, {}, { tk := [8] }] ⟨[tP 0 1000000, tP 2 2, tI 3 u1u.2, tP 4 4], [(2, .cells GBinds.z [(0, .app 41)]), (4, .cells [.slx] (GL04Fill.h0_41t un.2.gList)), bC 1000000 (GL01Cur.q un.1)], []⟩ (.cons (cspec_l04Binds_d h728) .nil) ?_
  apply Wc.seq
  apply Wc.seq
  refine Wc.r0 ⟨[tP 0 1000000, tP 2 2, tP 4 4, tI 9 u1u.2], [(2, .cells GBinds.z [(0, .app 41)]), (4, .cells [.slx] (GL04Fill.h0_41t un.2.gList)), bC 1000000 (GL01Cur.q un.1)], []⟩ ?_
  refine Wc.block ?_
  apply Wc.seq
  refine Wc.r0 ⟨[tP 0 1000000, tP 2 2, tP 4 4, tI 9 u1u.2, tB 10 (u1u.2 == 0)], [(2, .cells GBinds.z [(0, .app 41)]), (4, .cells [.slx] (GL04Fill.h0_41t un.2.gList)), bC 1000000 (GL01Cur.q un.1)], []⟩ ?_
  rcases oif h with ⟨h729, h⟩ | ⟨h729, h⟩
  · refine Wc.cT h729 ?_
    apply Wc.seq
    obtain ⟨u32, h730, h⟩ := obind h
    obtain ⟨ued, h731, h⟩ := obind h
    refine Wc.draw hmix [{}, {}, { r := some (.v (.agg (GTerm.qx u32)) (GTerm.h3_41t u32)) }, {}, { c := some (List.map GTerm.c (un.2.gList.set (((0 : Int)).toNat) u32)), tk := [14] }] [] [2, 4] [2, 4, 1000000] [] ⟨[tP 2 2, tP 4 4], [(2, .cells GBinds.z [(0, .app 41)]), (4, .cells [.slx] [(0, .ex 41 true (List.map GTerm.c (un.2.gList.set (((0 : Int)).toNat) u32)))]), bC 1000000 (GL01Cur.q un.1)], []⟩ _ (by kernel_rfl) (fun X => by kernel_rfl) (.cons (cspec_l03Var_d h730) (.cons (ix_obl (c := GTerm.c) GTerm.c_len h731) (.cons (mod_obl (off := 0) (new := (GTerm.q u32)) (c := GTerm.c) (GTerm.c_eq ued) (GTerm.c_eq u32) (at'_spec h731).2 rfl) (.cons (st_obl (sz := 4) (off := 0) (s := 4) (c := GTerm.c) (GTerm.c_eq ued) (at'_spec h731).2 rfl (Nat.le_of_ble_eq_true rfl)) .nil)))) ?_
    obtain ⟨u4a, h732, h⟩ := obind h
    obtain ⟨uee, h733, h⟩ := obind h
    refine Wc.draw hmix [{}, {}, { r := some (.v (.agg (GTerm.qx u4a)) (GTerm.h3_41t u4a)) }, {}, { c := some (List.map GTerm.c ((un.2.gList.set (((0 : Int)).toNat) u32).set (((1 : Int)).toNat) u4a)), tk := [18] }] [] [2, 4] [2, 4, 1000000] [] ⟨[tP 2 2, tP 4 4], [(2, .cells GBinds.z [(0, .app 41)]), (4, .cells [.slx] [(0, .ex 41 true (List.map GTerm.c ((un.2.gList.set (((0 : Int)).toNat) u32).set (((1 : Int)).toNat) u4a)))]), bC 1000000 (GL01Cur.q un.1)], []⟩ _ (by kernel_rfl) (fun X => by kernel_rfl) (.cons (cspec_l03Var_d h732) (.cons (ix_obl (c := GTerm.c) GTerm.c_len h733) (.cons (mod_obl (off := 0) (new := (GTerm.q u4a)) (c := GTerm.c) (GTerm.c_eq uee) (GTerm.c_eq u4a) (at'_spec h733).2 rfl) (.cons (st_obl (sz := 4) (off := 0) (s := 4) (c := GTerm.c) (GTerm.c_eq uee) (at'_spec h733).2 rfl (Nat.le_of_ble_eq_true rfl)) .nil)))) ?_
    apply Wc.seq
    refine Wc.r1 [{ md := 1 }, { tk := [33] }] ⟨[tP 2 2], [(2, .cells [.slx] [(0, .ex 41 true (List.map GTerm.c ((un.2.gList.set (((0 : Int)).toNat) u32).set (((1 : Int)).toNat) u4a)))]), bC 1000000 (GL01Cur.q un.1)], []⟩ ?_
    refine Wc.fx [.sh (.b 2 0)] ⟨[tP 2 2], [bC 2 [.sl (List.map GTerm.c ((un.2.gList.set (((0 : Int)).toNat) u32).set (((1 : Int)).toNat) u4a))], bC 1000000 (GL01Cur.q un.1)], []⟩ ?_
    obtain rfl := Option.some.inj h; exact Wc.ret dn
  · refine Wc.cF h729 ?_
    apply Wc.seq
    refine Wc.r0 ⟨[tP 0 1000000, tP 2 2, tP 4 4, tI 9 u1u.2, tB 20 (u1u.2 == 1)], [(2, .cells GBinds.z [(0, .app 41)]), (4, .cells [.slx] (GL04Fill.h0_41t un.2.gList)), bC 1000000 (GL01Cur.q un.1)], []⟩ ?_
    rcases oif h with ⟨h734, h⟩ | ⟨h734, h⟩
    · refine Wc.cT h734 ?_
      obtain ⟨u2a, h765, h⟩ := obind h
      obtain ⟨uef, h766, h⟩ := obind h
      refine Wc.draw hmix [{}, {}, {}, { r := some (.v (.agg (GTerm.qx u2a.2)) (GTerm.h3_41t u2a.2)), outs := [(0, .p (GL01Cur.q u2a.1) [])] }, {}, { c := some (List.map GTerm.c (un.2.gList.set (((2 : Int)).toNat) u2a.2)), tk := [25] }] [] [2, 4] [2, 4, 1000000] [] ⟨[tP 2 2, tP 4 4], [(2, .cells GBinds.z [(0, .app 41)]), (4, .cells [.slx] [(0, .ex 41 true (List.map GTerm.c (un.2.gList.set (((2 : Int)).toNat) u2a.2)))]), bC 1000000 (GL01Cur.q u2a.1)], []⟩ _ (by kernel_rfl) (fun X => by kernel_rfl) (.cons (cspec_l03Any_d h765) (.cons (ix_obl (c := GTerm.c) GTerm.c_len h766) (.cons (mod_obl (off := 0) (new := (GTerm.q u2a.2)) (c := GTerm.c) (GTerm.c_eq uef) (GTerm.c_eq u2a.2) (at'_spec h766).2 rfl) (.cons (st_obl (sz := 4) (off := 0) (s := 4) (c := GTerm.c) (GTerm.c_eq uef) (at'_spec h766).2 rfl (Nat.le_of_ble_eq_true rfl)) .nil)))) ?_
      apply Wc.seq
      refine Wc.r1 [{ md := 1 }, { tk := [33] }] ⟨[tP 2 2], [(2, .cells [.slx] [(0, .ex 41 true (List.map GTerm.c (un.2.gList.set (((2 : Int)).toNat) u2a.2)))]), bC 1000000 (GL01Cur.q u2a.1)], []⟩ ?_
      refine Wc.fx [.sh (.b 2 0)] ⟨[tP 2 2], [bC 2 [.sl (List.map GTerm.c (un.2.gList.set (((2 : Int)).toNat) u2a.2))], bC 1000000 (GL01Cur.q u2a.1)], []⟩ ?_
      obtain rfl := Option.some.inj h; exact Wc.ret dn
    · refine Wc.cF h734 ?_
      apply Wc.seq
      refine Wc.r0 ⟨[tP 2 2, tP 4 4, tB 27 (u1u.2 == 2)], [(2, .cells GBinds.z [(0, .app 41)]), (4, .cells [.slx] (GL04Fill.h0_41t un.2.gList)), bC 1000000 (GL01Cur.q un.1)], []⟩ ?_
      rcases oif h with ⟨h767, h⟩ | ⟨h767, h⟩
      · refine Wc.cT h767 ?_
        obtain ⟨h768, h⟩ := oguard h
        refine Wc.r2 [{}, {}, { c := some (List.map GTerm.c (un.2.gList.take ((2 : Int)).toNat)), tk := [30], fx := [.pl 30] }, {}, { tk := [31] }] ⟨[tP 2 2, tP 4 4], [(2, .cells GBinds.z [(0, .app 41)]), (4, .cells [.slx] [(0, .ex 41 true (List.map GTerm.c (un.2.gList.take ((2 : Int)).toNat)))]), bC 1000000 (GL01Cur.q un.1)], []⟩ (.cons (take_re GTerm.c un.2.gList 2) (.cons (take_obl (c := GTerm.c) h768) .nil)) ?_
        apply Wc.seq
        refine Wc.r1 [{ md := 1 }, { tk := [33] }] ⟨[tP 2 2], [(2, .cells [.slx] [(0, .ex 41 true (List.map GTerm.c (un.2.gList.take ((2 : Int)).toNat)))]), bC 1000000 (GL01Cur.q un.1)], []⟩ ?_
        refine Wc.fx [.sh (.b 2 0)] ⟨[tP 2 2], [bC 2 [.sl (List.map GTerm.c (un.2.gList.take ((2 : Int)).toNat))], bC 1000000 (GL01Cur.q un.1)], []⟩ ?_
        obtain rfl := Option.some.inj h; exact Wc.ret dn
      · refine Wc.cF h767 ?_
        refine Wc.fx [] ⟨[tP 2 2, tP 4 4], [(2, .cells GBinds.z [(0, .app 41)]), (4, .cells [.slx] (GL04Fill.h0_41t un.2.gList)), bC 1000000 (GL01Cur.q un.1)], []⟩ ?_
        refine Wc.skip ?_
        apply Wc.seq
        refine Wc.r1 [{ md := 1 }, { tk := [33] }] ⟨[tP 2 2], [(2, .cells [.slx] (GL04Fill.h0_41t un.2.gList)), bC 1000000 (GL01Cur.q un.1)], []⟩ ?_
        refine Wc.fx [.sh (.b 2 0)] ⟨[tP 2 2], [bC 2 [.sl (List.map GTerm.c un.2.gList)], bC 1000000 (GL01Cur.q un.1)], []⟩ ?_
        obtain rfl := Option.some.inj h; exact Wc.ret dn

def pspec_DrawEval (k : Nat) (uby : List Int) : Option (GBinds × GTerm) :=
  (pspec_l01New k uby).bind fun uds =>
  (pspec_l01Below k uds 6).bind fun u4z =>
  (pspec_l01Pick k u4z.1 [(bs [49, 32, 43, 32, 50, 32, 42, 32, 51]), (bs [55, 32, 47, 47, 32, 45, 50]), (bs [45, 32, 40, 52, 41]), (bs [88, 32, 43, 32, 49]), (bs [97, 32, 43, 32, 88]), (bs [57, 57, 57, 57, 57, 57, 57, 57, 57, 32, 43, 32, 49]), (bs [53, 32, 47, 47, 32, 48]), (bs [49, 32, 45, 32, 50, 32, 45, 32, 51]), (bs [102, 40, 49, 41]), (bs [51]), (bs [49, 32, 43, 32, 97, 32, 47, 47, 32, 48]), (bs [57, 57, 57, 57, 57, 57, 57, 57, 57, 32, 42, 32, 57, 57, 57, 57, 57, 57, 57, 57, 57])]).bind fun u4b =>
  if sumOk u4b.2 (bs [32, 46]) then
    (pspec_ReadTerm k (u4b.2 ++ (bs [32, 46]))).bind fun u50 =>
    if (u4z.2 == 0) = true then
      (pspec_l03Any k u4b.1).bind fun u51 =>
      (pspec_l04Any k u51.1).bind fun u93 =>
      some (u93.2, u51.2)
    else
      (pspec_l04Any k u4b.1).bind fun ubz =>
      some (ubz.2, u50.1)
  else none
theorem cspec_DrawEval {k : Nat} {uby : List Int} {r : GBinds × GTerm} (h : pspec_DrawEval k uby = some r) : FnO Try.prog 16 [.v (.sl (List.map cI.u8 uby)) []] (.v (.tup [.agg [.sl (List.map GTerm.c r.1.gList)], .agg (GTerm.q r.2)]) []) [] := by
  refine FnO.o2 Try.func16 (rfl : Try.f16.body = some _) ?_
  intro w0 X0 Fin pv0 pb gt
  unfold pspec_DrawEval at h
  apply Wc.seq
  refine Wc.r0 ⟨[tV 0 (.sl (List.map cI.u8 uby)), tP 2 2, tP 3 3], [(2, .cells GBinds.z [(0, .app 41)]), (3, .cells GTerm.z [(3, .app 41)])], []⟩ ?_
  apply Wc.seq
  obtain ⟨uds, h769, h⟩ := obind h
  refine Wc.r2 [{}, { r := some (.p (GL01Cur.q uds) []) }] ⟨[tP 2 2, tP 3 3, tP 4 10], [(2, .cells GBinds.z [(0, .app 41)]), (3, .cells GTerm.z [(3, .app 41)]), bC 10 (GL01Cur.q uds)], []⟩ (.cons (cspec_l01New h769) .nil) ?_
  apply Wc.seq
  obtain ⟨u4z, h770, h⟩ := obind h
  refine Wc.r2 [{}, { r := some (.v (aI u4z.2) []), outs := [(0, .p (GL01Cur.q u4z.1) [])] }] ⟨[tP 2 2, tP 3 3, tP 4 10, tI 5 u4z.2], [(2, .cells GBinds.z [(0, .app 41)]), (3, .cells GTerm.z [(3, .app 41)]), bC 10 (GL01Cur.q u4z.1)], []⟩ (.cons (cspec_l01Below h770) .nil) ?_
  apply Wc.seq
  obtain ⟨u4b, h771, h⟩ := obind h
  obtain ⟨h772, h⟩ := oguard h
  obtain ⟨u50, h773, h⟩ := obind h
  refine Wc.r2 [{}, { c := some (List.map cS [(bs [49, 32, 43, 32, 50, 32, 42, 32, 51]), (bs [55, 32, 47, 47, 32, 45, 50]), (bs [45, 32, 40, 52, 41]), (bs [88, 32, 43, 32, 49]), (bs [97, 32, 43, 32, 88]), (bs [57, 57, 57, 57, 57, 57, 57, 57, 57, 32, 43, 32, 49]), (bs [53, 32, 47, 47, 32, 48]), (bs [49, 32, 45, 32, 50, 32, 45, 32, 51]), (bs [102, 40, 49, 41]), (bs [51]), (bs [49, 32, 43, 32, 97, 32, 47, 47, 32, 48]), (bs [57, 57, 57, 57, 57, 57, 57, 57, 57, 32, 42, 32, 57, 57, 57, 57, 57, 57, 57, 57, 57])]) }, { r := some (.v (.str u4b.2) []), outs := [(0, .p (GL01Cur.q u4b.1) [])] }, {}, { r := some (.v (.tup [.agg (GTerm.q u50.1), .sl (List.map cS u50.2.1), .bool u50.2.2]) [(4, .app 9)]) }, { tk := [18] }, {}, { tk := [13] }, {}, {}, {}, { tk := [20] }] ⟨[tP 2 2, tP 3 3, tP 4 10, tI 5 u4z.2, tP 6 6], [(2, .cells GBinds.z [(0, .app 41)]), (3, .cells GTerm.z [(3, .app 41)]), bC 6 (GTerm.q u50.1), bC 10 (GL01Cur.q u4b.1)], []⟩ (.cons (cl_cons (c := cS) (x := (bs [49, 32, 43, 32, 50, 32, 42, 32, 51])) rfl (cl_cons (c := cS) (x := (bs [55, 32, 47, 47, 32, 45, 50])) rfl (cl_cons (c := cS) (x := (bs [45, 32, 40, 52, 41])) rfl (cl_cons (c := cS) (x := (bs [88, 32, 43, 32, 49])) rfl (cl_cons (c := cS) (x := (bs [97, 32, 43, 32, 88])) rfl (cl_cons (c := cS) (x := (bs [57, 57, 57, 57, 57, 57, 57, 57, 57, 32, 43, 32, 49])) rfl (cl_cons (c := cS) (x := (bs [53, 32, 47, 47, 32, 48])) rfl (cl_cons (c := cS) (x := (bs [49, 32, 45, 32, 50, 32, 45, 32, 51])) rfl (cl_cons (c := cS) (x := (bs [102, 40, 49, 41])) rfl (cl_cons (c := cS) (x := (bs [51])) rfl (cl_cons (c := cS) (x := (bs [49, 32, 43, 32, 97, 32, 47, 47, 32, 48])) rfl (cl_cons (c := cS) (x := (bs [57, 57, 57, 57, 57, 57, 57, 57, 57, 32, 42, 32, 57, 57, 57, 57, 57, 57, 57, 57, 57])) rfl (cl_nil cS))))))))))))) (.cons (cspec_l01Pick h771) (.cons h772 (.cons (cspec_ReadTerm h773) .nil)))) ?_
  apply Wc.seq
  apply Wc.seq
  refine Wc.r0 ⟨[tP 2 2, tP 3 3, tP 4 10, tP 6 6, tB 23 (u4z.2 == 0)], [(2, .cells GBinds.z [(0, .app 41)]), (3, .cells GTerm.z [(3, .app 41)]), bC 6 (GTerm.q u50.1), bC 10 (GL01Cur.q u4b.1)], []⟩ ?_
  rcases oif h with ⟨h774, h⟩ | ⟨h774, h⟩
  · refine Wc.cT h774 ?_
    obtain ⟨u51, h775, h⟩ := obind h
    refine Wc.r2 [{}, { r := some (.v (.agg (GTerm.q u51.2)) [(3, .app 41)]), outs := [(0, .p (GL01Cur.q u51.1) [])] }, { tk := [25] }] ⟨[tP 2 2, tP 3 3, tP 4 10, tP 6 6], [(2, .cells GBinds.z [(0, .app 41)]), (3, .cells GTerm.z [(3, .app 41)]), (6, .cells (GTerm.q u51.2) [(3, .app 41)]), bC 10 (GL01Cur.q u51.1)], []⟩ (.cons (cspec_l03Any h775) .nil) ?_
    apply Wc.seq
    obtain ⟨u93, h776, h⟩ := obind h
    refine Wc.draw hmix [{}, { r := some (.v (.agg [.sl (List.map GTerm.c u93.2.gList)]) []), outs := [(0, .p (GL01Cur.q u93.1) [])] }, { md := 1 }, {}, { tk := [28] }] [] [2, 3] [2, 3] [] ⟨[tP 2 2, tP 3 3], [bC 2 [.sl (List.map GTerm.c u93.2.gList)], (3, .cells (GTerm.q u51.2) [(3, .app 41)])], []⟩ _ (by kernel_rfl) (fun X => by kernel_rfl) (.cons (cspec_l04Any h776) .nil) ?_
    refine Wc.fx [.un (.b 3 3)] ⟨[tP 2 2, tP 3 3], [bC 2 [.sl (List.map GTerm.c u93.2.gList)], bC 3 (GTerm.q u51.2)], []⟩ ?_
    obtain rfl := Option.some.inj h; exact Wc.ret dn
  · refine Wc.cF h774 ?_
    refine Wc.fx [] ⟨[tP 2 2, tP 3 3, tP 4 10, tP 6 6], [(2, .cells GBinds.z [(0, .app 41)]), (3, .cells GTerm.z [(3, .app 41)]), bC 6 (GTerm.q u50.1), bC 10 (GL01Cur.q u4b.1)], []⟩ ?_
    refine Wc.skip ?_
    apply Wc.seq
    obtain ⟨ubz, h777, h⟩ := obind h
    refine Wc.draw hmix [{}, { r := some (.v (.agg [.sl (List.map GTerm.c ubz.2.gList)]) []), outs := [(0, .p (GL01Cur.q ubz.1) [])] }] [] [2, 3] [2, 3] [] ⟨[tP 2 2, tP 3 3], [bC 2 [.sl (List.map GTerm.c ubz.2.gList)], bC 3 (GTerm.q u50.1)], []⟩ _ (by kernel_rfl) (fun X => by kernel_rfl) (.cons (cspec_l04Any h777) .nil) ?_
    obtain rfl := Option.some.inj h; exact Wc.ret dn

def pspec_l10Range (k : Nat) (u52 : Int) : Option (Int × Int) :=
  (pspec_l01In k u52 (-999999999) 999999999).bind fun udt =>
  if (!udt) = true then
    some (0, 3)
  else
    some (u52, 0)
theorem cspec_l10Range {k : Nat} {u52 : Int} {r : Int × Int} (h : pspec_l10Range k u52 = some r) : FnO Try.prog 98 [.v (aI u52) []] (.v (.tup [aI r.1, aI r.2]) []) [] := by
  refine FnO.o2 Try.func98 (rfl : Try.f98.body = some _) ?_
  intro w0 X0 Fin pv0 pb gt
  unfold pspec_l10Range at h
  apply Wc.seq
  refine Wc.r0 ⟨[tI 0 u52], [], []⟩ ?_
  apply Wc.seq
  apply Wc.seq
  obtain ⟨udt, h778, h⟩ := obind h
  refine Wc.r2 [{}, { r := some (.v (.bool udt) []) }] ⟨[tI 0 u52, tB 6 (!udt)], [], []⟩ (.cons (cspec_l01In h778) .nil) ?_
  rcases oif h with ⟨h779, h⟩ | ⟨h779, h⟩
  · refine Wc.cT h779 ?_
    apply Wc.seq
    refine Wc.r0 ⟨[tI 2 0, tI 3 3], [], []⟩ ?_
    obtain rfl := Option.some.inj h; exact Wc.ret dn
  · refine Wc.cF h779 ?_
    refine Wc.fx [] ⟨[tI 0 u52], [], []⟩ ?_
    refine Wc.skip ?_
    apply Wc.seq
    refine Wc.r0 ⟨[tI 2 u52, tI 3 0], [], []⟩ ?_
    obtain rfl := Option.some.inj h; exact Wc.ret dn

def pspec_l03Is (k : Nat) (u4c : GTerm) (uc0 : ByteArray) (u94 : Int) : Option Bool :=
  if (u4c.gKind == 4) = true then
    if (sEq u4c.gName uc0) = true then
      some ((u4c.gKids.length : Int) == u94)
    else
      some false
  else
    some false
theorem cspec_l03Is {k : Nat} {u4c : GTerm} {uc0 : ByteArray} {u94 : Int} {r : Bool} (h : pspec_l03Is k u4c uc0 u94 = some r) : FnO Try.prog 99 [.v (.agg (GTerm.q u4c)) [], .v (.str uc0) [], .v (aI u94) []] (.v (.bool r) []) [] := by
  refine FnO.o2 Try.func99 (rfl : Try.f99.body = some _) ?_
  intro w0 X0 Fin pv0 pb gt
  unfold pspec_l03Is at h
  apply Wc.seq
  refine Wc.r0 ⟨[tS 1 uc0, tI 2 u94, tP 3 3], [bC 3 (GTerm.q u4c)], []⟩ ?_
  apply Wc.seq
  rcases oif h with ⟨h780, h⟩ | ⟨h780, h⟩
  · rcases oif h with ⟨h781, h⟩ | ⟨h781, h⟩
    · refine Wc.r2 [{}, {}, {}, { re := some (.bool true) }, {}, {}, {}, {}, {}, { re := some (.bool true) }, {}, {}, { v := some (aI (u4c.gKids.length : Int)) }] ⟨[tB 6 ((u4c.gKids.length : Int) == u94)], [], []⟩ (.cons (congrArg AV.bool h780) (.cons (congrArg AV.bool h781) (.cons (len_obl GTerm.c u4c.gKids) .nil))) ?_
      obtain rfl := Option.some.inj h; exact Wc.ret dn
    · refine Wc.r2 [{}, {}, {}, { re := some (.bool true) }, {}, {}, {}, {}, {}, { re := some (.bool false) }] ⟨[tB 6 false], [], []⟩ (.cons (congrArg AV.bool h780) (.cons (congrArg AV.bool h781) .nil)) ?_
      obtain rfl := Option.some.inj h; exact Wc.ret dn
  · refine Wc.r2 [{}, {}, {}, { re := some (.bool false) }] ⟨[tB 6 false], [], []⟩ (.cons (congrArg AV.bool h780) .nil) ?_
    obtain rfl := Option.some.inj h; exact Wc.ret dn

def pspec_l10Sign (k : Nat) (u53 : ByteArray) : Option Bool :=
  if (sEq u53 (bs [43])) = true then
    some true
  else
    if (sEq u53 (bs [45])) = true then
      some true
    else
      if (sEq u53 (bs [42])) = true then
        some true
      else
        some (sEq u53 (bs [47, 47]))
theorem cspec_l10Sign {k : Nat} {u53 : ByteArray} {r : Bool} (h : pspec_l10Sign k u53 = some r) : FnO Try.prog 100 [.v (.str u53) []] (.v (.bool r) []) [] := by
  refine FnO.o2 Try.func100 (rfl : Try.f100.body = some _) ?_
  intro w0 X0 Fin pv0 pb gt
  unfold pspec_l10Sign at h
  apply Wc.seq
  refine Wc.r0 ⟨[tS 0 u53], [], []⟩ ?_
  apply Wc.seq
  rcases oif h with ⟨h782, h⟩ | ⟨h782, h⟩
  · refine Wc.r2 [{}, {}, { re := some (.bool true) }] ⟨[tB 2 true], [], []⟩ (.cons (congrArg AV.bool h782) .nil) ?_
    obtain rfl := Option.some.inj h; exact Wc.ret dn
  · rcases oif h with ⟨h783, h⟩ | ⟨h783, h⟩
    · refine Wc.r2 [{}, {}, { re := some (.bool false) }, {}, {}, {}, { re := some (.bool true) }] ⟨[tB 2 true], [], []⟩ (.cons (congrArg AV.bool h782) (.cons (congrArg AV.bool h783) .nil)) ?_
      obtain rfl := Option.some.inj h; exact Wc.ret dn
    · rcases oif h with ⟨h784, h⟩ | ⟨h784, h⟩
      · refine Wc.r2 [{}, {}, { re := some (.bool false) }, {}, {}, {}, { re := some (.bool false) }, {}, {}, {}, { re := some (.bool true) }] ⟨[tB 2 true], [], []⟩ (.cons (congrArg AV.bool h782) (.cons (congrArg AV.bool h783) (.cons (congrArg AV.bool h784) .nil))) ?_
        obtain rfl := Option.some.inj h; exact Wc.ret dn
      · refine Wc.r2 [{}, {}, { re := some (.bool false) }, {}, {}, {}, { re := some (.bool false) }, {}, {}, {}, { re := some (.bool false) }] ⟨[tB 2 (sEq u53 (bs [47, 47]))], [], []⟩ (.cons (congrArg AV.bool h782) (.cons (congrArg AV.bool h783) (.cons (congrArg AV.bool h784) .nil))) ?_
        obtain rfl := Option.some.inj h; exact Wc.ret dn

def pspec_l10Two (k : Nat) (u33 : ByteArray) (u2b : Int) (u14 : Int) : Option (Int × Int) :=
  if (sEq u33 (bs [43])) = true then
    (pspec_l10Range k (wr.i64 (u2b + u14))).bind fun u6q =>
    some (u6q.1, u6q.2)
  else
    if (sEq u33 (bs [45])) = true then
      (pspec_l10Range k (wr.i64 (u2b - u14))).bind fun u6r =>
      some (u6r.1, u6r.2)
    else
      if (sEq u33 (bs [42])) = true then
        (pspec_l10Range k (wr.i64 (u2b * u14))).bind fun u6s =>
        some (u6s.1, u6s.2)
      else
        if (u14 == 0) = true then
          some (0, 4)
        else
          if (u14 : Int) ≠ 0 then
            (pspec_l10Range k (wr.i64 (Int.tdiv u2b u14))).bind fun u6t =>
            some (u6t.1, u6t.2)
          else none
theorem cspec_l10Two {k : Nat} {u33 : ByteArray} {u2b : Int} {u14 : Int} {r : Int × Int} (h : pspec_l10Two k u33 u2b u14 = some r) : FnO Try.prog 101 [.v (.str u33) [], .v (aI u2b) [], .v (aI u14) []] (.v (.tup [aI r.1, aI r.2]) []) [] := by
  refine FnO.o2 Try.func101 (rfl : Try.f101.body = some _) ?_
  intro w0 X0 Fin pv0 pb gt
  unfold pspec_l10Two at h
  apply Wc.seq
  refine Wc.r0 ⟨[tS 0 u33, tI 1 u2b, tI 2 u14], [], []⟩ ?_
  apply Wc.seq
  apply Wc.seq
  refine Wc.r0 ⟨[tI 1 u2b, tI 2 u14, tS 8 u33], [], []⟩ ?_
  refine Wc.block ?_
  apply Wc.seq
  refine Wc.r0 ⟨[tI 1 u2b, tI 2 u14, tS 8 u33, tB 9 (sEq u33 (bs [43]))], [], []⟩ ?_
  rcases oif h with ⟨h785, h⟩ | ⟨h785, h⟩
  · refine Wc.cT h785 ?_
    apply Wc.seq
    obtain ⟨u6q, h786, h⟩ := obind h
    refine Wc.r2 [{}, {}, {}, { r := some (.v (.tup [aI u6q.1, aI u6q.2]) []) }] ⟨[tI 6 u6q.1, tI 7 u6q.2], [], []⟩ (.cons (cspec_l10Range h786) .nil) ?_
    obtain rfl := Option.some.inj h; exact Wc.ret dn
  · refine Wc.cF h785 ?_
    apply Wc.seq
    refine Wc.r0 ⟨[tI 1 u2b, tI 2 u14, tS 8 u33, tB 17 (sEq u33 (bs [45]))], [], []⟩ ?_
    rcases oif h with ⟨h787, h⟩ | ⟨h787, h⟩
    · refine Wc.cT h787 ?_
      apply Wc.seq
      obtain ⟨u6r, h788, h⟩ := obind h
      refine Wc.r2 [{}, {}, {}, { r := some (.v (.tup [aI u6r.1, aI u6r.2]) []) }] ⟨[tI 6 u6r.1, tI 7 u6r.2], [], []⟩ (.cons (cspec_l10Range h788) .nil) ?_
      obtain rfl := Option.some.inj h; exact Wc.ret dn
    · refine Wc.cF h787 ?_
      apply Wc.seq
      refine Wc.r0 ⟨[tI 1 u2b, tI 2 u14, tB 25 (sEq u33 (bs [42]))], [], []⟩ ?_
      rcases oif h with ⟨h789, h⟩ | ⟨h789, h⟩
      · refine Wc.cT h789 ?_
        apply Wc.seq
        obtain ⟨u6s, h790, h⟩ := obind h
        refine Wc.r2 [{}, {}, {}, { r := some (.v (.tup [aI u6s.1, aI u6s.2]) []) }] ⟨[tI 6 u6s.1, tI 7 u6s.2], [], []⟩ (.cons (cspec_l10Range h790) .nil) ?_
        obtain rfl := Option.some.inj h; exact Wc.ret dn
      · refine Wc.cF h789 ?_
        refine Wc.fx [] ⟨[tI 1 u2b, tI 2 u14], [], []⟩ ?_
        refine Wc.skip ?_
        apply Wc.seq
        apply Wc.seq
        refine Wc.r0 ⟨[tI 1 u2b, tI 2 u14, tB 34 (u14 == 0)], [], []⟩ ?_
        rcases oif h with ⟨h791, h⟩ | ⟨h791, h⟩
        · refine Wc.cT h791 ?_
          apply Wc.seq
          refine Wc.r0 ⟨[tI 6 0, tI 7 4], [], []⟩ ?_
          obtain rfl := Option.some.inj h; exact Wc.ret dn
        · refine Wc.cF h791 ?_
          refine Wc.fx [] ⟨[tI 1 u2b, tI 2 u14], [], []⟩ ?_
          refine Wc.skip ?_
          apply Wc.seq
          obtain ⟨h792, h⟩ := oguard h
          obtain ⟨u6t, h793, h⟩ := obind h
          refine Wc.r2 [{}, {}, {}, { r := some (.v (.tup [aI u6t.1, aI u6t.2]) []) }] ⟨[tI 6 u6t.1, tI 7 u6t.2], [], []⟩ (.cons h792 (.cons (cspec_l10Range h793) .nil)) ?_
          obtain rfl := Option.some.inj h; exact Wc.ret dn

def pspec_l10Eval_J1 (k : Nat) (rspec_l10Eval : (List GTerm) → GTerm → Int → Option (Int × Int)) (ux : GTerm) (vv : List GTerm) (vq : Int) (uc1 : Bool) : Option (Int × Int) :=
  if uc1 = true then
    (at' ux.gKids 0).bind fun uc2 =>
    (rspec_l10Eval vv uc2 (wr.i64 (vq + 1))).bind fun u1v =>
    if (u1v.2 != 0) = true then
      some (0, u1v.2)
    else
      (at' ux.gKids 1).bind fun uc3 =>
      (rspec_l10Eval vv uc3 (wr.i64 (vq + 1))).bind fun u34 =>
      if (u34.2 != 0) = true then
        some (0, u34.2)
      else
        (pspec_l10Two k ux.gName u1v.1 u34.1).bind fun u6u =>
        some (u6u.1, u6u.2)
  else
    some (0, 2)
mutual
def pspec_l10Eval : Nat → (List GTerm) → GTerm → Int → Option (Int × Int)
  | 0, _, _, _ => none
  | k + 1, vv, u4d, vq =>
    (pspec_l04Walk k vv u4d).bind fun ux =>
    if (ux.gKind == 1) = true then
      some (0, 1)
    else
      if (ux.gKind == 3) = true then
        (pspec_l10Range k ux.gNum).bind fun u6v =>
        some (u6v.1, u6v.2)
      else
        if (decide (vq > 40)) = true then
          some (0, 2)
        else
          (pspec_l03Is k ux (bs [45]) 1).bind fun udu =>
          if udu = true then
            (at' ux.gKids 0).bind fun v6 =>
            (pspec_l10Eval k vv v6 (wr.i64 (vq + 1))).bind fun u35 =>
            if (u35.2 != 0) = true then
              some (0, u35.2)
            else
              (pspec_l10Range k (wr.i64 (0 - u35.1))).bind fun u6w =>
              some (u6w.1, u6w.2)
          else
            if (ux.gKind == 4) = true then
              if ((ux.gKids.length : Int) == 2) = true then
                (pspec_l10Sign k ux.gName).bind fun udv =>
                pspec_l10Eval_J1 k (pspec_l10Eval k) ux vv vq udv
              else
                pspec_l10Eval_J1 k (pspec_l10Eval k) ux vv vq false
            else
              pspec_l10Eval_J1 k (pspec_l10Eval k) ux vv vq false
end
set_option maxHeartbeats 4000000 in
theorem all_pspec_l10Eval : ∀ k : Nat, (∀ {vv : List GTerm} {u4d : GTerm} {vq : Int} {r : Int × Int}, pspec_l10Eval k vv u4d vq = some r → FnO Try.prog 58 [.v (.sl (List.map GTerm.c vv)) [], .v (.agg (GTerm.q u4d)) [], .v (aI vq) []] (.v (.tup [aI r.1, aI r.2]) []) []) := by
  intro k
  induction k with
  | zero =>
    · intro vv u4d vq r h
      exact (onone (by rw [pspec_l10Eval] at h; exact h)).elim
  | succ k ih =>
    have ih_pspec_l10Eval := @ih
    · intro vv u4d vq r h
      rw [pspec_l10Eval] at h
      refine FnO.o2 Try.func58 (rfl : Try.f58.body = some _) ?_
      intro w0 X0 Fin pv0 pb gt
      apply Wc.seq
      refine Wc.r0 ⟨[tV 0 (.sl (List.map GTerm.c vv)), tI 2 vq, tP 4 4], [bC 4 (GTerm.q u4d)], []⟩ ?_
      apply Wc.seq
      obtain ⟨ux, h794, h⟩ := obind h
      refine Wc.r2 [{}, {}, { r := some (.v (.agg (GTerm.q ux)) []) }] ⟨[tV 0 (.sl (List.map GTerm.c vv)), tI 2 vq, tP 4 4], [bC 4 (GTerm.q ux)], []⟩ (.cons (cspec_l04Walk h794) .nil) ?_
      apply Wc.seq
      refine Wc.block ?_
      apply Wc.seq
      refine Wc.r0 ⟨[tV 0 (.sl (List.map GTerm.c vv)), tI 2 vq, tP 4 4, tB 17 (ux.gKind == 1)], [bC 4 (GTerm.q ux)], []⟩ ?_
      rcases oif h with ⟨h795, h⟩ | ⟨h795, h⟩
      · refine Wc.cT h795 ?_
        apply Wc.seq
        refine Wc.r0 ⟨[tI 6 0, tI 7 1], [], []⟩ ?_
        obtain rfl := Option.some.inj h; exact Wc.ret dn
      · refine Wc.cF h795 ?_
        apply Wc.seq
        refine Wc.r0 ⟨[tV 0 (.sl (List.map GTerm.c vv)), tI 2 vq, tP 4 4, tB 21 (ux.gKind == 3)], [bC 4 (GTerm.q ux)], []⟩ ?_
        rcases oif h with ⟨h796, h⟩ | ⟨h796, h⟩
        · refine Wc.cT h796 ?_
          apply Wc.seq
          obtain ⟨u6v, h797, h⟩ := obind h
          refine Wc.r2 [{}, {}, { r := some (.v (.tup [aI u6v.1, aI u6v.2]) []) }] ⟨[tI 6 u6v.1, tI 7 u6v.2], [], []⟩ (.cons (cspec_l10Range h797) .nil) ?_
          obtain rfl := Option.some.inj h; exact Wc.ret dn
        · refine Wc.cF h796 ?_
          apply Wc.seq
          refine Wc.r0 ⟨[tV 0 (.sl (List.map GTerm.c vv)), tI 2 vq, tP 4 4, tB 30 (decide (vq > 40))], [bC 4 (GTerm.q ux)], []⟩ ?_
          rcases oif h with ⟨h798, h⟩ | ⟨h798, h⟩
          · refine Wc.cT h798 ?_
            apply Wc.seq
            refine Wc.r0 ⟨[tI 6 0, tI 7 2], [], []⟩ ?_
            obtain rfl := Option.some.inj h; exact Wc.ret dn
          · refine Wc.cF h798 ?_
            apply Wc.seq
            obtain ⟨udu, h799, h⟩ := obind h
            refine Wc.r2 [{}, { r := some (.v (.bool udu) []) }] ⟨[tV 0 (.sl (List.map GTerm.c vv)), tI 2 vq, tP 4 4, tB 33 udu], [bC 4 (GTerm.q ux)], []⟩ (.cons (cspec_l03Is h799) .nil) ?_
            rcases oif h with ⟨h800, h⟩ | ⟨h800, h⟩
            · refine Wc.cT h800 ?_
              apply Wc.seq
              obtain ⟨v6, h801, h⟩ := obind h
              obtain ⟨u35, h802, h⟩ := obind h
              refine Wc.r2 [{}, {}, {}, { v := some (.vptr (GTerm.q v6)) }, {}, {}, {}, { r := some (.v (.tup [aI u35.1, aI u35.2]) []) }] ⟨[tI 8 u35.1, tI 9 u35.2], [], []⟩ (.cons (at_obl (c := GTerm.c) (GTerm.c_eq v6) GTerm.c_len h801) (.cons (len_ok 4 (GTerm.q v6)) (.cons (ih_pspec_l10Eval h802) .nil))) ?_
              apply Wc.seq
              apply Wc.seq
              refine Wc.r0 ⟨[tI 8 u35.1, tI 9 u35.2, tB 48 (u35.2 != 0)], [], []⟩ ?_
              rcases oif h with ⟨h803, h⟩ | ⟨h803, h⟩
              · refine Wc.cT h803 ?_
                apply Wc.seq
                refine Wc.r0 ⟨[tI 6 0, tI 7 u35.2], [], []⟩ ?_
                obtain rfl := Option.some.inj h; exact Wc.ret dn
              · refine Wc.cF h803 ?_
                refine Wc.fx [] ⟨[tI 8 u35.1], [], []⟩ ?_
                refine Wc.skip ?_
                apply Wc.seq
                obtain ⟨u6w, h804, h⟩ := obind h
                refine Wc.r2 [{}, {}, { r := some (.v (.tup [aI u6w.1, aI u6w.2]) []) }] ⟨[tI 6 u6w.1, tI 7 u6w.2], [], []⟩ (.cons (cspec_l10Range h804) .nil) ?_
                obtain rfl := Option.some.inj h; exact Wc.ret dn
            · refine Wc.cF h800 ?_
              refine Wc.seqJ (fun st => ∃ (uc1 : Bool), st = ⟨[tV 0 (.sl (List.map GTerm.c vv)), tI 2 vq, tP 4 4, tB 55 uc1], [bC 4 (GTerm.q ux)], []⟩ ∧ pspec_l10Eval_J1 k (pspec_l10Eval k) ux vv vq uc1 = some r) ?_ ?_
              · rcases oif h with ⟨h813, h⟩ | ⟨h813, h⟩
                · rcases oif h with ⟨h814, h⟩ | ⟨h814, h⟩
                  · obtain ⟨udv, h815, h⟩ := obind h
                    refine Wc.r2 [{}, {}, {}, { re := some (.bool true) }, {}, {}, { v := some (aI (ux.gKids.length : Int)) }, {}, {}, { re := some (.bool true) }, {}, {}, { r := some (.v (.bool udv) []) }] ⟨[tV 0 (.sl (List.map GTerm.c vv)), tI 2 vq, tP 4 4, tB 55 udv], [bC 4 (GTerm.q ux)], []⟩ (.cons (congrArg AV.bool h813) (.cons (len_obl GTerm.c ux.gKids) (.cons (congrArg AV.bool h814) (.cons (cspec_l10Sign h815) .nil)))) ?_
                    exact ⟨_, rfl, h⟩
                  · refine Wc.r2 [{}, {}, {}, { re := some (.bool true) }, {}, {}, { v := some (aI (ux.gKids.length : Int)) }, {}, {}, { re := some (.bool false) }] ⟨[tV 0 (.sl (List.map GTerm.c vv)), tI 2 vq, tP 4 4, tB 55 false], [bC 4 (GTerm.q ux)], []⟩ (.cons (congrArg AV.bool h813) (.cons (len_obl GTerm.c ux.gKids) (.cons (congrArg AV.bool h814) .nil))) ?_
                    exact ⟨_, rfl, h⟩
                · refine Wc.r2 [{}, {}, {}, { re := some (.bool false) }] ⟨[tV 0 (.sl (List.map GTerm.c vv)), tI 2 vq, tP 4 4, tB 55 false], [bC 4 (GTerm.q ux)], []⟩ (.cons (congrArg AV.bool h813) .nil) ?_
                  exact ⟨_, rfl, h⟩
              · rintro st ⟨uc1, rfl, h⟩
                rcases oif h with ⟨h805, h⟩ | ⟨h805, h⟩
                · refine Wc.cT h805 ?_
                  apply Wc.seq
                  obtain ⟨uc2, h806, h⟩ := obind h
                  obtain ⟨u1v, h807, h⟩ := obind h
                  refine Wc.r2 [{}, {}, {}, { v := some (.vptr (GTerm.q uc2)) }, {}, {}, {}, { r := some (.v (.tup [aI u1v.1, aI u1v.2]) []) }] ⟨[tV 0 (.sl (List.map GTerm.c vv)), tI 2 vq, tP 4 4, tI 10 u1v.1, tI 11 u1v.2], [bC 4 (GTerm.q ux)], []⟩ (.cons (at_obl (c := GTerm.c) (GTerm.c_eq uc2) GTerm.c_len h806) (.cons (len_ok 4 (GTerm.q uc2)) (.cons (ih_pspec_l10Eval h807) .nil))) ?_
                  apply Wc.seq
                  apply Wc.seq
                  refine Wc.r0 ⟨[tV 0 (.sl (List.map GTerm.c vv)), tI 2 vq, tP 4 4, tI 10 u1v.1, tI 11 u1v.2, tB 82 (u1v.2 != 0)], [bC 4 (GTerm.q ux)], []⟩ ?_
                  rcases oif h with ⟨h808, h⟩ | ⟨h808, h⟩
                  · refine Wc.cT h808 ?_
                    apply Wc.seq
                    refine Wc.r0 ⟨[tI 6 0, tI 7 u1v.2], [], []⟩ ?_
                    obtain rfl := Option.some.inj h; exact Wc.ret dn
                  · refine Wc.cF h808 ?_
                    refine Wc.fx [] ⟨[tV 0 (.sl (List.map GTerm.c vv)), tI 2 vq, tP 4 4, tI 10 u1v.1], [bC 4 (GTerm.q ux)], []⟩ ?_
                    refine Wc.skip ?_
                    apply Wc.seq
                    obtain ⟨uc3, h809, h⟩ := obind h
                    obtain ⟨u34, h810, h⟩ := obind h
                    refine Wc.r2 [{}, {}, {}, { v := some (.vptr (GTerm.q uc3)) }, {}, {}, {}, { r := some (.v (.tup [aI u34.1, aI u34.2]) []) }] ⟨[tP 4 4, tI 10 u1v.1, tI 12 u34.1, tI 13 u34.2], [bC 4 (GTerm.q ux)], []⟩ (.cons (at_obl (c := GTerm.c) (GTerm.c_eq uc3) GTerm.c_len h809) (.cons (len_ok 4 (GTerm.q uc3)) (.cons (ih_pspec_l10Eval h810) .nil))) ?_
                    apply Wc.seq
                    apply Wc.seq
                    refine Wc.r0 ⟨[tP 4 4, tI 10 u1v.1, tI 12 u34.1, tI 13 u34.2, tB 96 (u34.2 != 0)], [bC 4 (GTerm.q ux)], []⟩ ?_
                    rcases oif h with ⟨h811, h⟩ | ⟨h811, h⟩
                    · refine Wc.cT h811 ?_
                      apply Wc.seq
                      refine Wc.r0 ⟨[tI 6 0, tI 7 u34.2], [], []⟩ ?_
                      obtain rfl := Option.some.inj h; exact Wc.ret dn
                    · refine Wc.cF h811 ?_
                      refine Wc.fx [] ⟨[tP 4 4, tI 10 u1v.1, tI 12 u34.1], [bC 4 (GTerm.q ux)], []⟩ ?_
                      refine Wc.skip ?_
                      apply Wc.seq
                      obtain ⟨u6u, h812, h⟩ := obind h
                      refine Wc.r2 [{}, {}, {}, {}, { r := some (.v (.tup [aI u6u.1, aI u6u.2]) []) }] ⟨[tI 6 u6u.1, tI 7 u6u.2], [], []⟩ (.cons (cspec_l10Two h812) .nil) ?_
                      obtain rfl := Option.some.inj h; exact Wc.ret dn
                · refine Wc.cF h805 ?_
                  refine Wc.fx [] ⟨[], [], []⟩ ?_
                  refine Wc.skip ?_
                  apply Wc.seq
                  refine Wc.r0 ⟨[tI 6 0, tI 7 2], [], []⟩ ?_
                  obtain rfl := Option.some.inj h; exact Wc.ret dn
theorem cspec_l10Eval {k : Nat} {vv : List GTerm} {u4d : GTerm} {vq : Int} {r : Int × Int} (h : pspec_l10Eval k vv u4d vq = some r) : FnO Try.prog 58 [.v (.sl (List.map GTerm.c vv)) [], .v (.agg (GTerm.q u4d)) [], .v (aI vq) []] (.v (.tup [aI r.1, aI r.2]) []) [] := (all_pspec_l10Eval k) h

def pspec_Eval (k : Nat) (uc4 : GBinds) (uc5 : GTerm) : Option (Int × Int) :=
  (pspec_l10Eval k uc4.gList uc5 1).bind fun u6x =>
  some (u6x.1, u6x.2)
theorem cspec_Eval {k : Nat} {uc4 : GBinds} {uc5 : GTerm} {r : Int × Int} (h : pspec_Eval k uc4 uc5 = some r) : FnO Try.prog 17 [.v (.agg [.sl (List.map GTerm.c uc4.gList)]) [], .v (.agg (GTerm.q uc5)) []] (.v (.tup [aI r.1, aI r.2]) []) [] := by
  refine FnO.o2 Try.func17 (rfl : Try.f17.body = some _) ?_
  intro w0 X0 Fin pv0 pb gt
  unfold pspec_Eval at h
  apply Wc.seq
  refine Wc.r0 ⟨[tP 2 2, tP 3 3], [bC 2 [.sl (List.map GTerm.c uc4.gList)], bC 3 (GTerm.q uc5)], []⟩ ?_
  apply Wc.seq
  obtain ⟨u6x, h816, h⟩ := obind h
  refine Wc.r2 [{}, {}, {}, { r := some (.v (.tup [aI u6x.1, aI u6x.2]) []) }] ⟨[tI 4 u6x.1, tI 5 u6x.2], [], []⟩ (.cons (cspec_l10Eval h816) .nil) ?_
  obtain rfl := Option.some.inj h; exact Wc.ret dn

def pspec_DrawErrorTerm (k : Nat) (uc6 : List Int) : Option (Int × ByteArray) :=
  (pspec_l01New k uc6).bind fun udw =>
  (pspec_l01Below k udw 7).bind fun u5r =>
  (pspec_l01Pick k u5r.1 [(bs [105, 115, 47, 50]), (bs []), (bs [97, 32, 98])]).bind fun uc7 =>
  some (wr.i64 (u5r.2 - 1), uc7.2)
theorem cspec_DrawErrorTerm {k : Nat} {uc6 : List Int} {r : Int × ByteArray} (h : pspec_DrawErrorTerm k uc6 = some r) : FnO Try.prog 18 [.v (.sl (List.map cI.u8 uc6)) []] (.v (.tup [aI r.1, .str r.2]) []) [] := by
  refine FnO.o2 Try.func18 (rfl : Try.f18.body = some _) ?_
  intro w0 X0 Fin pv0 pb gt
  unfold pspec_DrawErrorTerm at h
  apply Wc.seq
  refine Wc.r0 ⟨[tV 0 (.sl (List.map cI.u8 uc6))], [], []⟩ ?_
  apply Wc.seq
  obtain ⟨udw, h817, h⟩ := obind h
  refine Wc.r2 [{}, { r := some (.p (GL01Cur.q udw) []) }] ⟨[tP 4 7], [bC 7 (GL01Cur.q udw)], []⟩ (.cons (cspec_l01New h817) .nil) ?_
  apply Wc.seq
  obtain ⟨u5r, h818, h⟩ := obind h
  refine Wc.r2 [{}, { r := some (.v (aI u5r.2) []), outs := [(0, .p (GL01Cur.q u5r.1) [])] }] ⟨[tP 4 7, tI 5 (wr.i64 (u5r.2 - 1))], [bC 7 (GL01Cur.q u5r.1)], []⟩ (.cons (cspec_l01Below h818) .nil) ?_
  apply Wc.seq
  obtain ⟨uc7, h819, h⟩ := obind h
  refine Wc.r2 [{}, {}, { c := some (List.map cS [(bs [105, 115, 47, 50]), (bs []), (bs [97, 32, 98])]) }, { r := some (.v (.str uc7.2) []), outs := [(0, .p (GL01Cur.q uc7.1) [])] }] ⟨[tI 2 (wr.i64 (u5r.2 - 1)), tS 3 uc7.2], [], []⟩ (.cons (cl_cons (c := cS) (x := (bs [105, 115, 47, 50])) rfl (cl_cons (c := cS) (x := (bs [])) rfl (cl_cons (c := cS) (x := (bs [97, 32, 98])) rfl (cl_nil cS)))) (.cons (cspec_l01Pick h819) .nil)) ?_
  obtain rfl := Option.some.inj h; exact Wc.ret dn

def pspec_SameTerm_L1 (k : Nat) (rspec_SameTerm : GTerm → GTerm → Option Bool) (vd : GTerm) (vl : GTerm) : Nat → Int → Option (Out Bool Unit)
  | 0, _ => none
  | m + 1, u2q =>
    if (decide (u2q < (vd.gKids.length : Int))) = true then
      (at' vd.gKids u2q).bind fun uc8 =>
      (at' vl.gKids u2q).bind fun uc9 =>
      (rspec_SameTerm uc8 uc9).bind fun udx =>
      if (!udx) = true then
        some (.ret false)
      else
        pspec_SameTerm_L1 k rspec_SameTerm vd vl m (wr.i64 (u2q + 1))
    else
      some (.done ())
mutual
def pspec_SameTerm : Nat → GTerm → GTerm → Option Bool
  | 0, _, _ => none
  | k + 1, vd, vl =>
    if (vd.gKind != vl.gKind) = true then
      some false
    else
      if (!(sEq vd.gName vl.gName)) = true then
        some false
      else
        if (vd.gNum != vl.gNum) = true then
          some false
        else
          if ((vd.gKids.length : Int) != (vl.gKids.length : Int)) = true then
            some false
          else
            (pspec_SameTerm_L1 k (pspec_SameTerm k) vd vl k 0).bind fun out1 => match out1 with
            | .ret r => some r
            | .done () =>
              some true
end
theorem all_pspec_SameTerm : ∀ k : Nat, (∀ {vd : GTerm} {vl : GTerm} {r : Bool}, pspec_SameTerm k vd vl = some r → FnO Try.prog 19 [.v (.agg (GTerm.q vd)) [], .v (.agg (GTerm.q vl)) []] (.v (.bool r) []) []) := by
  intro k
  induction k with
  | zero =>
    · intro vd vl r h
      exact (onone (by rw [pspec_SameTerm] at h; exact h)).elim
  | succ k ih =>
    have ih_pspec_SameTerm := @ih
    · intro vd vl r h
      rw [pspec_SameTerm] at h
      refine FnO.o2 Try.func19 (rfl : Try.f19.body = some _) ?_
      intro w0 X0 Fin pv0 pb gt
      apply Wc.seq
      refine Wc.r0 ⟨[tP 2 2, tP 3 3], [bC 2 (GTerm.q vd), bC 3 (GTerm.q vl)], []⟩ ?_
      apply Wc.seq
      apply Wc.seq
      rcases oif h with ⟨h820, h⟩ | ⟨h820, h⟩
      · refine Wc.r2 [{}, {}, {}, {}, {}, { re := some (.bool true) }] ⟨[tP 2 2, tP 3 3, tB 33 true], [bC 2 (GTerm.q vd), bC 3 (GTerm.q vl)], []⟩ (.cons (congrArg AV.bool h820) .nil) ?_
        refine Wc.cT rfl ?_
        apply Wc.seq
        refine Wc.r0 ⟨[tB 4 false], [], []⟩ ?_
        obtain rfl := Option.some.inj h; exact Wc.ret dn
      · rcases oif h with ⟨h821, h⟩ | ⟨h821, h⟩
        · refine Wc.r2 [{}, {}, {}, {}, {}, { re := some (.bool false) }, {}, {}, {}, {}, {}, {}, { re := some (.bool true) }] ⟨[tP 2 2, tP 3 3, tB 33 true], [bC 2 (GTerm.q vd), bC 3 (GTerm.q vl)], []⟩ (.cons (congrArg AV.bool h820) (.cons (congrArg AV.bool h821) .nil)) ?_
          refine Wc.cT rfl ?_
          apply Wc.seq
          refine Wc.r0 ⟨[tB 4 false], [], []⟩ ?_
          obtain rfl := Option.some.inj h; exact Wc.ret dn
        · rcases oif h with ⟨h822, h⟩ | ⟨h822, h⟩
          · refine Wc.r2 [{}, {}, {}, {}, {}, { re := some (.bool false) }, {}, {}, {}, {}, {}, {}, { re := some (.bool false) }, {}, {}, {}, {}, {}, {}, { re := some (.bool true) }] ⟨[tP 2 2, tP 3 3, tB 33 true], [bC 2 (GTerm.q vd), bC 3 (GTerm.q vl)], []⟩ (.cons (congrArg AV.bool h820) (.cons (congrArg AV.bool h821) (.cons (congrArg AV.bool h822) .nil))) ?_
            refine Wc.cT rfl ?_
            apply Wc.seq
            refine Wc.r0 ⟨[tB 4 false], [], []⟩ ?_
            obtain rfl := Option.some.inj h; exact Wc.ret dn
          · refine Wc.r2 [{}, {}, {}, {}, {}, { re := some (.bool false) }, {}, {}, {}, {}, {}, {}, { re := some (.bool false) }, {}, {}, {}, {}, {}, {}, { re := some (.bool false) }, {}, {}, { v := some (aI (vd.gKids.length : Int)) }, {}, {}, { v := some (aI (vl.gKids.length : Int)) }] ⟨[tP 2 2, tP 3 3, tB 33 ((vd.gKids.length : Int) != (vl.gKids.length : Int))], [bC 2 (GTerm.q vd), bC 3 (GTerm.q vl)], []⟩ (.cons (congrArg AV.bool h820) (.cons (congrArg AV.bool h821) (.cons (congrArg AV.bool h822) (.cons (len_obl GTerm.c vd.gKids) (.cons (len_obl GTerm.c vl.gKids) .nil))))) ?_
            rcases oif h with ⟨h823, h⟩ | ⟨h823, h⟩
            · refine Wc.cT h823 ?_
              apply Wc.seq
              refine Wc.r0 ⟨[tB 4 false], [], []⟩ ?_
              obtain rfl := Option.some.inj h; exact Wc.ret dn
            · refine Wc.cF h823 ?_
              refine Wc.fx [] ⟨[tP 2 2, tP 3 3], [bC 2 (GTerm.q vd), bC 3 (GTerm.q vl)], []⟩ ?_
              refine Wc.skip ?_
              apply Wc.seq
              apply Wc.seq
              refine Wc.r0 ⟨[tP 2 2, tP 3 3, tI 5 0], [bC 2 (GTerm.q vd), bC 3 (GTerm.q vl)], []⟩ ?_
              obtain ⟨out1, h824, h⟩ := obind h
              refine Wc.lastJ (fun st => out1 = .done () ∧ st = ⟨[], [], []⟩) ?_ ?_
              · refine Wc.block ?_
                refine Wc.loop (fun m st => ∃ (u2q : Int), st = ⟨[tP 2 2, tP 3 3, tI 5 u2q], [bC 2 (GTerm.q vd), bC 3 (GTerm.q vl)], []⟩ ∧ pspec_SameTerm_L1 k (pspec_SameTerm k) vd vl m u2q = some out1) ?_ k ⟨_, rfl, h824⟩
                rintro m st ⟨u2q, rfl, h824⟩
                cases m with
                | zero => exact (onone h824).elim
                | succ m =>
                  apply Wc.seq
                  apply Wc.seq
                  refine Wc.r2 [{}, {}, {}, { v := some (aI (vd.gKids.length : Int)) }] ⟨[tP 2 2, tP 3 3, tI 5 u2q, tB 38 (decide (u2q < (vd.gKids.length : Int)))], [bC 2 (GTerm.q vd), bC 3 (GTerm.q vl)], []⟩ (.cons (len_obl GTerm.c vd.gKids) .nil) ?_
                  rcases oif h824 with ⟨h825, h824⟩ | ⟨h825, h824⟩
                  · refine Wc.cT h825 ?_
                    refine Wc.fx [] ⟨[tP 2 2, tP 3 3, tI 5 u2q], [bC 2 (GTerm.q vd), bC 3 (GTerm.q vl)], []⟩ ?_
                    refine Wc.skip ?_
                    apply Wc.seq
                    refine Wc.block ?_
                    apply Wc.seq
                    obtain ⟨uc8, h826, h824⟩ := obind h824
                    obtain ⟨uc9, h827, h824⟩ := obind h824
                    obtain ⟨udx, h828, h824⟩ := obind h824
                    refine Wc.draw hmix [{}, {}, {}, { v := some (.vptr (GTerm.q uc8)) }, {}, {}, {}, {}, { v := some (.vptr (GTerm.q uc9)) }, {}, { r := some (.v (.bool udx) []) }] [] [2, 3, 5, 52] [2, 3] [] ⟨[tP 2 2, tP 3 3, tI 5 u2q, tB 52 (!udx)], [bC 2 (GTerm.q vd), bC 3 (GTerm.q vl)], []⟩ _ (by kernel_rfl) (fun X => by kernel_rfl) (.cons (at_obl (c := GTerm.c) (GTerm.c_eq uc8) GTerm.c_len h826) (.cons (len_ok 4 (GTerm.q uc8)) (.cons (at_obl (c := GTerm.c) (GTerm.c_eq uc9) GTerm.c_len h827) (.cons (len_ok 4 (GTerm.q uc9)) (.cons (ih_pspec_SameTerm h828) .nil))))) ?_
                    rcases oif h824 with ⟨h829, h824⟩ | ⟨h829, h824⟩
                    · refine Wc.cT h829 ?_
                      apply Wc.seq
                      refine Wc.r0 ⟨[tB 4 false], [], []⟩ ?_
                      refine Wc.ret ?_
                      obtain rfl := Option.some.inj h824
                      obtain rfl := Option.some.inj h
                      exact ⟨.inl rfl, by kernel_rfl, by kernel_rfl⟩
                    · refine Wc.cF h829 ?_
                      refine Wc.fx [] ⟨[tP 2 2, tP 3 3, tI 5 u2q], [bC 2 (GTerm.q vd), bC 3 (GTerm.q vl)], []⟩ ?_
                      refine Wc.skip ?_
                      refine Wc.r0 ⟨[tP 2 2, tP 3 3, tI 5 (wr.i64 (u2q + 1))], [bC 2 (GTerm.q vd), bC 3 (GTerm.q vl)], []⟩ ?_
                      exact ⟨_, Nat.lt_succ_self _, _, rfl, h824⟩
                  · refine Wc.cF h825 ?_
                    refine Wc.fx [] ⟨[], [], []⟩ ?_
                    refine Wc.exit ?_
                    obtain rfl := Option.some.inj h824
                    exact ⟨rfl, rfl⟩
              · rintro st ⟨rfl, rfl⟩
                apply Wc.seq
                refine Wc.r0 ⟨[tB 4 true], [], []⟩ ?_
                obtain rfl := Option.some.inj h; exact Wc.ret dn
theorem cspec_SameTerm {k : Nat} {vd : GTerm} {vl : GTerm} {r : Bool} (h : pspec_SameTerm k vd vl = some r) : FnO Try.prog 19 [.v (.agg (GTerm.q vd)) [], .v (.agg (GTerm.q vl)) []] (.v (.bool r) []) [] := (all_pspec_SameTerm k) h

def pimpl_nameOk_L1 (k : Nat) (vy : ByteArray) : Nat → Int → Option (Out Bool Unit)
  | 0, _ => none
  | m + 1, zv =>
    if (decide (zv < (vy.size : Int))) = true then
      if 0 ≤ zv ∧ (zv).toNat < vy.size then
        (pimpl_within k (wr.i64 (bt vy zv)) 33 126).bind fun uca =>
        if (!uca) = true then
          some (.ret false)
        else
          if 0 ≤ zv ∧ (zv).toNat < vy.size then
            if ((bt vy zv) == 39) = true then
              some (.ret false)
            else
              if 0 ≤ zv ∧ (zv).toNat < vy.size then
                if ((bt vy zv) == 34) = true then
                  some (.ret false)
                else
                  pimpl_nameOk_L1 k vy m (wr.i64 (zv + 1))
              else none
          else none
      else none
    else
      some (.done ())
def pimpl_nameOk (k : Nat) (vy : ByteArray) : Option Bool :=
  (pimpl_nameOk_L1 k vy k 0).bind fun out1 => match out1 with
  | .ret r => some r
  | .done () =>
    (pimpl_within k (vy.size : Int) 1 20).bind fun udy =>
    some udy
theorem cimpl_nameOk {k : Nat} {vy : ByteArray} {r : Bool} (h : pimpl_nameOk k vy = some r) : FnO Try.prog 60 [.v (.str vy) []] (.v (.bool r) []) [] := by
  refine FnO.o2 Try.func60 (rfl : Try.f60.body = some _) ?_
  intro w0 X0 Fin pv0 pb gt
  unfold pimpl_nameOk at h
  apply Wc.seq
  refine Wc.r0 ⟨[tS 0 vy], [], []⟩ ?_
  apply Wc.seq
  apply Wc.seq
  refine Wc.r0 ⟨[tS 0 vy, tI 3 0], [], []⟩ ?_
  obtain ⟨out1, h830, h⟩ := obind h
  refine Wc.lastJ (fun st => out1 = .done () ∧ st = ⟨[tS 0 vy], [], []⟩) ?_ ?_
  · refine Wc.block ?_
    refine Wc.loop (fun m st => ∃ (zv : Int), st = ⟨[tS 0 vy, tI 3 zv], [], []⟩ ∧ pimpl_nameOk_L1 k vy m zv = some out1) ?_ k ⟨_, rfl, h830⟩
    rintro m st ⟨zv, rfl, h830⟩
    cases m with
    | zero => exact (onone h830).elim
    | succ m =>
      apply Wc.seq
      apply Wc.seq
      refine Wc.r0 ⟨[tS 0 vy, tI 3 zv, tB 7 (decide (zv < (vy.size : Int)))], [], []⟩ ?_
      rcases oif h830 with ⟨h831, h830⟩ | ⟨h831, h830⟩
      · refine Wc.cT h831 ?_
        refine Wc.fx [] ⟨[tS 0 vy, tI 3 zv], [], []⟩ ?_
        refine Wc.skip ?_
        apply Wc.seq
        refine Wc.block ?_
        apply Wc.seq
        obtain ⟨h832, h830⟩ := oguard h830
        obtain ⟨uca, h833, h830⟩ := obind h830
        rcases oif h830 with ⟨h834, h830⟩ | ⟨h834, h830⟩
        · refine Wc.r2 [{}, {}, {}, {}, { r := some (.v (.bool uca) []) }, {}, { re := some (.bool true) }] ⟨[tS 0 vy, tI 3 zv, tB 27 true], [], []⟩ (.cons h832 (.cons (cimpl_within h833) (.cons (congrArg AV.bool h834) .nil))) ?_
          refine Wc.cT rfl ?_
          apply Wc.seq
          refine Wc.r0 ⟨[tB 2 false], [], []⟩ ?_
          refine Wc.ret ?_
          obtain rfl := Option.some.inj h830
          obtain rfl := Option.some.inj h
          exact ⟨.inl rfl, by kernel_rfl, by kernel_rfl⟩
        · obtain ⟨h835, h830⟩ := oguard h830
          rcases oif h830 with ⟨h836, h830⟩ | ⟨h836, h830⟩
          · refine Wc.r2 [{}, {}, {}, {}, { r := some (.v (.bool uca) []) }, {}, { re := some (.bool false) }, {}, {}, {}, {}, {}, { re := some (.bool true) }] ⟨[tS 0 vy, tI 3 zv, tB 27 true], [], []⟩ (.cons h832 (.cons (cimpl_within h833) (.cons (congrArg AV.bool h834) (.cons h835 (.cons (congrArg AV.bool h836) .nil))))) ?_
            refine Wc.cT rfl ?_
            apply Wc.seq
            refine Wc.r0 ⟨[tB 2 false], [], []⟩ ?_
            refine Wc.ret ?_
            obtain rfl := Option.some.inj h830
            obtain rfl := Option.some.inj h
            exact ⟨.inl rfl, by kernel_rfl, by kernel_rfl⟩
          · obtain ⟨h837, h830⟩ := oguard h830
            refine Wc.r2 [{}, {}, {}, {}, { r := some (.v (.bool uca) []) }, {}, { re := some (.bool false) }, {}, {}, {}, {}, {}, { re := some (.bool false) }] ⟨[tS 0 vy, tI 3 zv, tB 27 ((bt vy zv) == 34)], [], []⟩ (.cons h832 (.cons (cimpl_within h833) (.cons (congrArg AV.bool h834) (.cons h835 (.cons (congrArg AV.bool h836) (.cons h837 .nil)))))) ?_
            rcases oif h830 with ⟨h838, h830⟩ | ⟨h838, h830⟩
            · refine Wc.cT h838 ?_
              apply Wc.seq
              refine Wc.r0 ⟨[tB 2 false], [], []⟩ ?_
              refine Wc.ret ?_
              obtain rfl := Option.some.inj h830
              obtain rfl := Option.some.inj h
              exact ⟨.inl rfl, by kernel_rfl, by kernel_rfl⟩
            · refine Wc.cF h838 ?_
              refine Wc.fx [] ⟨[tS 0 vy, tI 3 zv], [], []⟩ ?_
              refine Wc.skip ?_
              refine Wc.r0 ⟨[tS 0 vy, tI 3 (wr.i64 (zv + 1))], [], []⟩ ?_
              exact ⟨_, Nat.lt_succ_self _, _, rfl, h830⟩
      · refine Wc.cF h831 ?_
        refine Wc.fx [] ⟨[tS 0 vy], [], []⟩ ?_
        refine Wc.exit ?_
        obtain rfl := Option.some.inj h830
        exact ⟨rfl, rfl⟩
  · rintro st ⟨rfl, rfl⟩
    apply Wc.seq
    obtain ⟨udy, h839, h⟩ := obind h
    refine Wc.r2 [{}, {}, { r := some (.v (.bool udy) []) }] ⟨[tB 2 udy], [], []⟩ (.cons (cimpl_within h839) .nil) ?_
    obtain rfl := Option.some.inj h; exact Wc.ret dn

def pimpl_structure (k : Nat) (u95 : ByteArray) (u96 : List GTerm) : Option GTerm :=
  some (GTerm.mk 4 u95 0 u96)
theorem cimpl_structure {k : Nat} {u95 : ByteArray} {u96 : List GTerm} {r : GTerm} (h : pimpl_structure k u95 u96 = some r) : FnO Try.prog 61 [.v (.str u95) [], .v (.sl (List.map GTerm.c u96)) []] (.v (.agg (GTerm.q r)) []) [] := by
  refine FnO.o2 Try.func61 (rfl : Try.f61.body = some _) ?_
  intro w0 X0 Fin pv0 pb gt
  unfold pimpl_structure at h
  apply Wc.seq
  refine Wc.r0 ⟨[tS 0 u95, tV 1 (.sl (List.map GTerm.c u96)), tP 4 4], [(4, .cells GTerm.z [(3, .app 41)])], []⟩ ?_
  apply Wc.seq
  refine Wc.r0 ⟨[tP 4 4], [bC 4 [aI 4, .str u95, aI 0, .sl (List.map GTerm.c u96)]], []⟩ ?_
  obtain rfl := Option.some.inj h; exact Wc.ret dn

def pimpl_atom (k : Nat) (u97 : ByteArray) : Option GTerm :=
  some (GTerm.mk 2 u97 0 [])
theorem cimpl_atom {k : Nat} {u97 : ByteArray} {r : GTerm} (h : pimpl_atom k u97 = some r) : FnO Try.prog 62 [.v (.str u97) []] (.v (.agg (GTerm.q r)) [(3, .app 41)]) [] := by
  refine FnO.o2 Try.func62 (rfl : Try.f62.body = some _) ?_
  intro w0 X0 Fin pv0 pb gt
  unfold pimpl_atom at h
  apply Wc.seq
  refine Wc.r0 ⟨[tS 0 u97, tP 2 2], [(2, .cells GTerm.z [(3, .app 41)])], []⟩ ?_
  apply Wc.seq
  refine Wc.r1 [{}, {}, { tk := [4] }] ⟨[tP 2 2], [(2, .cells [aI 2, .str u97, aI 0, .sl (List.map GTerm.c [])] [(3, .app 41)])], []⟩ ?_
  obtain rfl := Option.some.inj h; exact Wc.ret dn

def pimpl_ErrorTerm_J1 (k : Nat) (u1e : ByteArray) (u54 : ByteArray) : Option GTerm :=
  (pimpl_nameOk k u1e).bind fun udz =>
  if (!udz) = true then
    (pimpl_atom k u54).bind fun u98 =>
    (pimpl_atom k (bs [110, 111, 110, 101])).bind fun u99 =>
    (pimpl_structure k (bs [101, 114, 114, 111, 114]) [u98, u99]).bind fun ue0 =>
    some ue0
  else
    (pimpl_atom k u54).bind fun u9a =>
    (pimpl_atom k u1e).bind fun u9b =>
    (pimpl_structure k (bs [101, 114, 114, 111, 114]) [u9a, u9b]).bind fun ue1 =>
    some ue1
def pimpl_ErrorTerm (k : Nat) (u5s : Int) (u1e : ByteArray) : Option GTerm :=
  (pimpl_within k u5s 1 4).bind fun ue2 =>
  if ue2 = true then
    (at' [(bs [105, 110, 115, 116]), (bs [116, 121, 112, 101]), (bs [114, 97, 110, 103, 101]), (bs [122, 101, 114, 111])] (wr.i64 (u5s - 1))).bind fun ucb =>
    pimpl_ErrorTerm_J1 k u1e ucb
  else
    pimpl_ErrorTerm_J1 k u1e (bs [117, 110, 107, 110, 111, 119, 110])
theorem cimpl_ErrorTerm {k : Nat} {u5s : Int} {u1e : ByteArray} {r : GTerm} (h : pimpl_ErrorTerm k u5s u1e = some r) : FnO Try.prog 20 [.v (aI u5s) [], .v (.str u1e) []] (.v (.agg (GTerm.q r)) []) [] := by
  refine FnO.o2 Try.func20 (rfl : Try.f20.body = some _) ?_
  intro w0 X0 Fin pv0 pb gt
  unfold pimpl_ErrorTerm at h
  apply Wc.seq
  refine Wc.r0 ⟨[tI 0 u5s, tS 1 u1e, tP 4 4], [(4, .cells GTerm.z [(3, .app 41)])], []⟩ ?_
  apply Wc.seq
  refine Wc.r0 ⟨[tI 0 u5s, tS 1 u1e, tP 4 4, tS 5 (bs [117, 110, 107, 110, 111, 119, 110])], [(4, .cells GTerm.z [(3, .app 41)])], []⟩ ?_
  refine Wc.seqJ (fun st => ∃ (u54 : ByteArray), st = ⟨[tS 1 u1e, tP 4 4, tS 5 u54], [(4, .cells GTerm.z [(3, .app 41)])], []⟩ ∧ pimpl_ErrorTerm_J1 k u1e u54 = some r) ?_ ?_
  · apply Wc.seq
    obtain ⟨ue2, h848, h⟩ := obind h
    refine Wc.r2 [{}, { r := some (.v (.bool ue2) []) }] ⟨[tI 0 u5s, tS 1 u1e, tP 4 4, tS 5 (bs [117, 110, 107, 110, 111, 119, 110]), tB 7 ue2], [(4, .cells GTerm.z [(3, .app 41)])], []⟩ (.cons (cimpl_within h848) .nil) ?_
    rcases oif h with ⟨h849, h⟩ | ⟨h849, h⟩
    · refine Wc.cT h849 ?_
      obtain ⟨ucb, h850, h⟩ := obind h
      refine Wc.r2 [{ c := some (List.map cS [(bs [105, 110, 115, 116]), (bs [116, 121, 112, 101]), (bs [114, 97, 110, 103, 101]), (bs [122, 101, 114, 111])]) }, {}, {}, { v := some (.vptr [.str ucb]) }] ⟨[tS 1 u1e, tP 4 4, tS 5 ucb], [(4, .cells GTerm.z [(3, .app 41)])], []⟩ (.cons (cl_cons (c := cS) (x := (bs [105, 110, 115, 116])) rfl (cl_cons (c := cS) (x := (bs [116, 121, 112, 101])) rfl (cl_cons (c := cS) (x := (bs [114, 97, 110, 103, 101])) rfl (cl_cons (c := cS) (x := (bs [122, 101, 114, 111])) rfl (cl_nil cS))))) (.cons (at_obl (c := cS) rfl cS_len h850) (.cons (len_ok 1 [.str ucb]) .nil))) ?_
      exact ⟨_, rfl, h⟩
    · refine Wc.cF h849 ?_
      refine Wc.fx [] ⟨[tS 1 u1e, tP 4 4, tS 5 (bs [117, 110, 107, 110, 111, 119, 110])], [(4, .cells GTerm.z [(3, .app 41)])], []⟩ ?_
      refine Wc.skip ?_
      exact ⟨_, rfl, h⟩
  · rintro st ⟨u54, rfl, h⟩
    apply Wc.seq
    apply Wc.seq
    obtain ⟨udz, h840, h⟩ := obind h
    refine Wc.r2 [{}, { r := some (.v (.bool udz) []) }] ⟨[tS 1 u1e, tP 4 4, tS 5 u54, tB 15 (!udz)], [(4, .cells GTerm.z [(3, .app 41)])], []⟩ (.cons (cimpl_nameOk h840) .nil) ?_
    rcases oif h with ⟨h841, h⟩ | ⟨h841, h⟩
    · refine Wc.cT h841 ?_
      refine Wc.r0 ⟨[tS 1 (bs [110, 111, 110, 101]), tP 4 4, tS 5 u54], [(4, .cells GTerm.z [(3, .app 41)])], []⟩ ?_
      apply Wc.seq
      obtain ⟨u98, h842, h⟩ := obind h
      obtain ⟨u99, h843, h⟩ := obind h
      obtain ⟨ue0, h844, h⟩ := obind h
      refine Wc.r2 [{}, { r := some (.v (.agg (GTerm.q u98)) [(3, .app 41)]) }, {}, { r := some (.v (.agg (GTerm.q u99)) [(3, .app 41)]) }, { c := some (List.map GTerm.c [u98, u99]) }, { r := some (.v (.agg (GTerm.q ue0)) []) }] ⟨[tP 4 4], [bC 4 (GTerm.q ue0)], []⟩ (.cons (cimpl_atom h842) (.cons (cimpl_atom h843) (.cons (cl_cons (c := GTerm.c) (x := u98) (GTerm.c_eq u98) (cl_cons (c := GTerm.c) (x := u99) (GTerm.c_eq u99) (cl_nil GTerm.c))) (.cons (cimpl_structure h844) .nil)))) ?_
      obtain rfl := Option.some.inj h; exact Wc.ret dn
    · refine Wc.cF h841 ?_
      refine Wc.fx [] ⟨[tS 1 u1e, tP 4 4, tS 5 u54], [(4, .cells GTerm.z [(3, .app 41)])], []⟩ ?_
      refine Wc.skip ?_
      apply Wc.seq
      obtain ⟨u9a, h845, h⟩ := obind h
      obtain ⟨u9b, h846, h⟩ := obind h
      obtain ⟨ue1, h847, h⟩ := obind h
      refine Wc.r2 [{}, { r := some (.v (.agg (GTerm.q u9a)) [(3, .app 41)]) }, {}, { r := some (.v (.agg (GTerm.q u9b)) [(3, .app 41)]) }, { c := some (List.map GTerm.c [u9a, u9b]) }, { r := some (.v (.agg (GTerm.q ue1)) []) }] ⟨[tP 4 4], [bC 4 (GTerm.q ue1)], []⟩ (.cons (cimpl_atom h845) (.cons (cimpl_atom h846) (.cons (cl_cons (c := GTerm.c) (x := u9a) (GTerm.c_eq u9a) (cl_cons (c := GTerm.c) (x := u9b) (GTerm.c_eq u9b) (cl_nil GTerm.c))) (.cons (cimpl_structure h847) .nil)))) ?_
      obtain rfl := Option.some.inj h; exact Wc.ret dn

def pspec_ErrorTerm_J1 (k : Nat) (zc : ByteArray) (u55 : ByteArray) : Option GTerm :=
  (pspec_l03Name k zc).bind fun ue3 =>
  if (!ue3) = true then
    (pspec_l03Atom k u55).bind fun ueg =>
    (pspec_l03Atom k (bs [110, 111, 110, 101])).bind fun ueh =>
    (pspec_l03Two k (bs [101, 114, 114, 111, 114]) ueg ueh).bind fun ue4 =>
    some ue4
  else
    (pspec_l03Atom k u55).bind fun uei =>
    (pspec_l03Atom k zc).bind fun uej =>
    (pspec_l03Two k (bs [101, 114, 114, 111, 114]) uei uej).bind fun ue5 =>
    some ue5
def pspec_ErrorTerm (k : Nat) (u1f : Int) (zc : ByteArray) : Option GTerm :=
  if (u1f == 1) = true then
    pspec_ErrorTerm_J1 k zc (bs [105, 110, 115, 116])
  else
    if (u1f == 2) = true then
      pspec_ErrorTerm_J1 k zc (bs [116, 121, 112, 101])
    else
      if (u1f == 3) = true then
        pspec_ErrorTerm_J1 k zc (bs [114, 97, 110, 103, 101])
      else
        if (u1f == 4) = true then
          pspec_ErrorTerm_J1 k zc (bs [122, 101, 114, 111])
        else
          pspec_ErrorTerm_J1 k zc (bs [117, 110, 107, 110, 111, 119, 110])
theorem cspec_ErrorTerm {k : Nat} {u1f : Int} {zc : ByteArray} {r : GTerm} (h : pspec_ErrorTerm k u1f zc = some r) : FnO Try.prog 21 [.v (aI u1f) [], .v (.str zc) []] (.v (.agg (GTerm.q r)) [(3, .app 41)]) [] := by
  refine FnO.o2 Try.func21 (rfl : Try.f21.body = some _) ?_
  intro w0 X0 Fin pv0 pb gt
  unfold pspec_ErrorTerm at h
  apply Wc.seq
  refine Wc.r0 ⟨[tI 0 u1f, tS 1 zc, tP 4 4], [(4, .cells GTerm.z [(3, .app 41)])], []⟩ ?_
  apply Wc.seq
  refine Wc.r0 ⟨[tI 0 u1f, tS 1 zc, tP 4 4, tS 5 (bs [117, 110, 107, 110, 111, 119, 110])], [(4, .cells GTerm.z [(3, .app 41)])], []⟩ ?_
  refine Wc.seqJ (fun st => ∃ (u55 : ByteArray), st = ⟨[tS 1 zc, tP 4 4, tS 5 u55], [(4, .cells GTerm.z [(3, .app 41)])], []⟩ ∧ pspec_ErrorTerm_J1 k zc u55 = some r) ?_ ?_
  · apply Wc.seq
    refine Wc.r0 ⟨[tS 1 zc, tP 4 4, tS 5 (bs [117, 110, 107, 110, 111, 119, 110]), tI 6 u1f], [(4, .cells GTerm.z [(3, .app 41)])], []⟩ ?_
    refine Wc.block ?_
    apply Wc.seq
    refine Wc.r0 ⟨[tS 1 zc, tP 4 4, tS 5 (bs [117, 110, 107, 110, 111, 119, 110]), tI 6 u1f, tB 7 (u1f == 1)], [(4, .cells GTerm.z [(3, .app 41)])], []⟩ ?_
    rcases oif h with ⟨h871, h⟩ | ⟨h871, h⟩
    · refine Wc.cT h871 ?_
      refine Wc.r0 ⟨[tS 1 zc, tP 4 4, tS 5 (bs [105, 110, 115, 116])], [(4, .cells GTerm.z [(3, .app 41)])], []⟩ ?_
      exact ⟨_, rfl, h⟩
    · refine Wc.cF h871 ?_
      apply Wc.seq
      refine Wc.r0 ⟨[tS 1 zc, tP 4 4, tS 5 (bs [117, 110, 107, 110, 111, 119, 110]), tI 6 u1f, tB 9 (u1f == 2)], [(4, .cells GTerm.z [(3, .app 41)])], []⟩ ?_
      rcases oif h with ⟨h872, h⟩ | ⟨h872, h⟩
      · refine Wc.cT h872 ?_
        refine Wc.r0 ⟨[tS 1 zc, tP 4 4, tS 5 (bs [116, 121, 112, 101])], [(4, .cells GTerm.z [(3, .app 41)])], []⟩ ?_
        exact ⟨_, rfl, h⟩
      · refine Wc.cF h872 ?_
        apply Wc.seq
        refine Wc.r0 ⟨[tS 1 zc, tP 4 4, tS 5 (bs [117, 110, 107, 110, 111, 119, 110]), tI 6 u1f, tB 11 (u1f == 3)], [(4, .cells GTerm.z [(3, .app 41)])], []⟩ ?_
        rcases oif h with ⟨h873, h⟩ | ⟨h873, h⟩
        · refine Wc.cT h873 ?_
          refine Wc.r0 ⟨[tS 1 zc, tP 4 4, tS 5 (bs [114, 97, 110, 103, 101])], [(4, .cells GTerm.z [(3, .app 41)])], []⟩ ?_
          exact ⟨_, rfl, h⟩
        · refine Wc.cF h873 ?_
          apply Wc.seq
          refine Wc.r0 ⟨[tS 1 zc, tP 4 4, tS 5 (bs [117, 110, 107, 110, 111, 119, 110]), tB 13 (u1f == 4)], [(4, .cells GTerm.z [(3, .app 41)])], []⟩ ?_
          rcases oif h with ⟨h874, h⟩ | ⟨h874, h⟩
          · refine Wc.cT h874 ?_
            refine Wc.r0 ⟨[tS 1 zc, tP 4 4, tS 5 (bs [122, 101, 114, 111])], [(4, .cells GTerm.z [(3, .app 41)])], []⟩ ?_
            exact ⟨_, rfl, h⟩
          · refine Wc.cF h874 ?_
            refine Wc.fx [] ⟨[tS 1 zc, tP 4 4, tS 5 (bs [117, 110, 107, 110, 111, 119, 110])], [(4, .cells GTerm.z [(3, .app 41)])], []⟩ ?_
            refine Wc.skip ?_
            exact ⟨_, rfl, h⟩
  · rintro st ⟨u55, rfl, h⟩
    apply Wc.seq
    apply Wc.seq
    obtain ⟨ue3, h863, h⟩ := obind h
    refine Wc.r2 [{}, { r := some (.v (.bool ue3) []) }] ⟨[tS 1 zc, tP 4 4, tS 5 u55, tB 17 (!ue3)], [(4, .cells GTerm.z [(3, .app 41)])], []⟩ (.cons (cspec_l03Name h863) .nil) ?_
    rcases oif h with ⟨h864, h⟩ | ⟨h864, h⟩
    · refine Wc.cT h864 ?_
      refine Wc.r0 ⟨[tS 1 (bs [110, 111, 110, 101]), tP 4 4, tS 5 u55], [(4, .cells GTerm.z [(3, .app 41)])], []⟩ ?_
      apply Wc.seq
      obtain ⟨ueg, h865, h⟩ := obind h
      obtain ⟨ueh, h866, h⟩ := obind h
      obtain ⟨ue4, h867, h⟩ := obind h
      refine Wc.r2 [{}, { r := some (.v (.agg (GTerm.q ueg)) [(3, .app 41)]) }, {}, { r := some (.v (.agg (GTerm.q ueh)) [(3, .app 41)]) }, { r := some (.v (.agg (GTerm.q ue4)) [(3, .app 41)]) }, { tk := [22] }] ⟨[tP 4 4], [(4, .cells (GTerm.q ue4) [(3, .app 41)])], []⟩ (.cons (cspec_l03Atom h865) (.cons (cspec_l03Atom h866) (.cons (cspec_l03Two h867) .nil))) ?_
      obtain rfl := Option.some.inj h; exact Wc.ret dn
    · refine Wc.cF h864 ?_
      refine Wc.fx [] ⟨[tS 1 zc, tP 4 4, tS 5 u55], [(4, .cells GTerm.z [(3, .app 41)])], []⟩ ?_
      refine Wc.skip ?_
      apply Wc.seq
      obtain ⟨uei, h868, h⟩ := obind h
      obtain ⟨uej, h869, h⟩ := obind h
      obtain ⟨ue5, h870, h⟩ := obind h
      refine Wc.r2 [{}, { r := some (.v (.agg (GTerm.q uei)) [(3, .app 41)]) }, {}, { r := some (.v (.agg (GTerm.q uej)) [(3, .app 41)]) }, { r := some (.v (.agg (GTerm.q ue5)) [(3, .app 41)]) }, { tk := [22] }] ⟨[tP 4 4], [(4, .cells (GTerm.q ue5) [(3, .app 41)])], []⟩ (.cons (cspec_l03Atom h868) (.cons (cspec_l03Atom h869) (.cons (cspec_l03Two h870) .nil))) ?_
      obtain rfl := Option.some.inj h; exact Wc.ret dn

def pimpl_atom_d (k : Nat) (u6y : ByteArray) : Option GTerm :=
  some (GTerm.mk 2 u6y 0 [])
theorem cimpl_atom_d {k : Nat} {u6y : ByteArray} {r : GTerm} (h : pimpl_atom_d k u6y = some r) : FnO Try.prog 62 [.v (.str u6y) []] (.v (.agg (GTerm.qx r)) (GTerm.h3_41t r)) [] := by
  refine FnO.o2 Try.func62 (rfl : Try.f62.body = some _) ?_
  intro w0 X0 Fin pv0 pb gt
  unfold pimpl_atom_d at h
  apply Wc.seq
  refine Wc.r0 ⟨[tS 0 u6y, tP 2 2], [(2, .cells GTerm.z [(3, .app 41)])], []⟩ ?_
  apply Wc.seq
  refine Wc.r1 [{}, {}, { tk := [4] }] ⟨[tP 2 2], [(2, .cells [aI 2, .str u6y, aI 0, .sl (List.map GTerm.c [])] [(3, .app 41)])], []⟩ ?_
  refine Wc.fx [.ow (.b 2 3) true] ⟨[tP 2 2], [(2, .cells [aI 2, .str u6y, aI 0, .slx] [(3, .ex 41 true (List.map GTerm.c []))])], []⟩ ?_
  obtain rfl := Option.some.inj h; exact Wc.ret dn

def pimpl_structure_d (k : Nat) (u9c : ByteArray) (u9d : List GTerm) : Option GTerm :=
  some (GTerm.mk 4 u9c 0 u9d)
theorem cimpl_structure_d {k : Nat} {u9c : ByteArray} {u9d : List GTerm} {r : GTerm} (h : pimpl_structure_d k u9c u9d = some r) : FnO Try.prog 61 [.v (.str u9c) [], .v (.slx) [(0, .ex 41 true (List.map GTerm.c u9d))]] (.v (.agg (GTerm.qx r)) (GTerm.h3_41t r)) [] := by
  refine FnO.o2 Try.func61 (rfl : Try.f61.body = some _) ?_
  intro w0 X0 Fin pv0 pb gt
  unfold pimpl_structure_d at h
  apply Wc.seq
  refine Wc.r0 ⟨[tS 0 u9c, (1, (.v (.slx), [(0, .ex 41 true (List.map GTerm.c u9d))])), tP 4 4], [(4, .cells GTerm.z [(3, .app 41)])], []⟩ ?_
  apply Wc.seq
  refine Wc.r1 [{}, { tk := [1] }, { tk := [6] }, { tk := [7] }] ⟨[tP 4 4], [(4, .cells [aI 4, .str u9c, aI 0, .slx] [(3, .ex 41 true (List.map GTerm.c u9d))])], []⟩ ?_
  obtain rfl := Option.some.inj h; exact Wc.ret dn

def pimpl_ErrorTerm_d_J1 (k : Nat) (u1g : ByteArray) (u56 : ByteArray) : Option GTerm :=
  (pimpl_nameOk k u1g).bind fun ue6 =>
  if (!ue6) = true then
    (pimpl_atom_d k u56).bind fun u6z =>
    (pimpl_atom_d k (bs [110, 111, 110, 101])).bind fun u70 =>
    (pimpl_structure_d k (bs [101, 114, 114, 111, 114]) [u6z, u70]).bind fun u9e =>
    some u9e
  else
    (pimpl_atom_d k u56).bind fun u71 =>
    (pimpl_atom_d k u1g).bind fun u72 =>
    (pimpl_structure_d k (bs [101, 114, 114, 111, 114]) [u71, u72]).bind fun u9f =>
    some u9f
def pimpl_ErrorTerm_d (k : Nat) (u5t : Int) (u1g : ByteArray) : Option GTerm :=
  (pimpl_within k u5t 1 4).bind fun ue7 =>
  if ue7 = true then
    (at' [(bs [105, 110, 115, 116]), (bs [116, 121, 112, 101]), (bs [114, 97, 110, 103, 101]), (bs [122, 101, 114, 111])] (wr.i64 (u5t - 1))).bind fun ucc =>
    pimpl_ErrorTerm_d_J1 k u1g ucc
  else
    pimpl_ErrorTerm_d_J1 k u1g (bs [117, 110, 107, 110, 111, 119, 110])
theorem cimpl_ErrorTerm_d {k : Nat} {u5t : Int} {u1g : ByteArray} {r : GTerm} (h : pimpl_ErrorTerm_d k u5t u1g = some r) : FnO Try.prog 20 [.v (aI u5t) [], .v (.str u1g) []] (.v (.agg (GTerm.qx r)) (GTerm.h3_41t r)) [] := by
  refine FnO.o2 Try.func20 (rfl : Try.f20.body = some _) ?_
  intro w0 X0 Fin pv0 pb gt
  unfold pimpl_ErrorTerm_d at h
  apply Wc.seq
  refine Wc.r0 ⟨[tI 0 u5t, tS 1 u1g, tP 4 4], [(4, .cells GTerm.z [(3, .app 41)])], []⟩ ?_
  apply Wc.seq
  refine Wc.r0 ⟨[tI 0 u5t, tS 1 u1g, tP 4 4, tS 5 (bs [117, 110, 107, 110, 111, 119, 110])], [(4, .cells GTerm.z [(3, .app 41)])], []⟩ ?_
  refine Wc.seqJ (fun st => ∃ (u56 : ByteArray), st = ⟨[tS 1 u1g, tP 4 4, tS 5 u56], [(4, .cells [aI 0, .str (bs []), aI 0, .slx] [(3, .ex 41 true (List.map GTerm.c []))])], []⟩ ∧ pimpl_ErrorTerm_d_J1 k u1g u56 = some r) ?_ ?_
  · apply Wc.seq
    obtain ⟨ue7, h912, h⟩ := obind h
    refine Wc.r2 [{}, { r := some (.v (.bool ue7) []) }] ⟨[tI 0 u5t, tS 1 u1g, tP 4 4, tS 5 (bs [117, 110, 107, 110, 111, 119, 110]), tB 7 ue7], [(4, .cells GTerm.z [(3, .app 41)])], []⟩ (.cons (cimpl_within h912) .nil) ?_
    rcases oif h with ⟨h913, h⟩ | ⟨h913, h⟩
    · refine Wc.cT h913 ?_
      obtain ⟨ucc, h914, h⟩ := obind h
      refine Wc.r3 [{ c := some (List.map cS [(bs [105, 110, 115, 116]), (bs [116, 121, 112, 101]), (bs [114, 97, 110, 103, 101]), (bs [122, 101, 114, 111])]) }, {}, {}, { v := some (.vptr [.str ucc]) }] [.ow (.b 4 3) true] ⟨[tS 1 u1g, tP 4 4, tS 5 ucc], [(4, .cells [aI 0, .str (bs []), aI 0, .slx] [(3, .ex 41 true (List.map GTerm.c []))])], []⟩ (.cons (cl_cons (c := cS) (x := (bs [105, 110, 115, 116])) rfl (cl_cons (c := cS) (x := (bs [116, 121, 112, 101])) rfl (cl_cons (c := cS) (x := (bs [114, 97, 110, 103, 101])) rfl (cl_cons (c := cS) (x := (bs [122, 101, 114, 111])) rfl (cl_nil cS))))) (.cons (at_obl (c := cS) rfl cS_len h914) (.cons (len_ok 1 [.str ucc]) .nil))) ?_
      exact ⟨_, rfl, h⟩
    · refine Wc.cF h913 ?_
      refine Wc.fx [.ow (.b 4 3) true] ⟨[tS 1 u1g, tP 4 4, tS 5 (bs [117, 110, 107, 110, 111, 119, 110])], [(4, .cells [aI 0, .str (bs []), aI 0, .slx] [(3, .ex 41 true (List.map GTerm.c []))])], []⟩ ?_
      refine Wc.skip ?_
      exact ⟨_, rfl, h⟩
  · rintro st ⟨u56, rfl, h⟩
    apply Wc.seq
    apply Wc.seq
    obtain ⟨ue6, h904, h⟩ := obind h
    refine Wc.r2 [{}, { r := some (.v (.bool ue6) []) }] ⟨[tS 1 u1g, tP 4 4, tS 5 u56, tB 15 (!ue6)], [(4, .cells [aI 0, .str (bs []), aI 0, .slx] [(3, .ex 41 true (List.map GTerm.c []))])], []⟩ (.cons (cimpl_nameOk h904) .nil) ?_
    rcases oif h with ⟨h905, h⟩ | ⟨h905, h⟩
    · refine Wc.cT h905 ?_
      refine Wc.r0 ⟨[tS 1 (bs [110, 111, 110, 101]), tP 4 4, tS 5 u56], [(4, .cells [aI 0, .str (bs []), aI 0, .slx] [(3, .ex 41 true (List.map GTerm.c []))])], []⟩ ?_
      apply Wc.seq
      obtain ⟨u6z, h906, h⟩ := obind h
      obtain ⟨u70, h907, h⟩ := obind h
      obtain ⟨u9e, h908, h⟩ := obind h
      refine Wc.r2 [{}, { r := some (.v (.agg (GTerm.qx u6z)) (GTerm.h3_41t u6z)) }, {}, { r := some (.v (.agg (GTerm.qx u70)) (GTerm.h3_41t u70)) }, { c := some (List.map GTerm.c [u6z, u70]), tk := [17, 19], md := 2 }, { tk := [20], r := some (.v (.agg (GTerm.qx u9e)) (GTerm.h3_41t u9e)) }, { tk := [21] }] ⟨[tP 4 4], [(4, .cells (GTerm.qx u9e) (GTerm.h3_41t u9e))], []⟩ (.cons (cimpl_atom_d h906) (.cons (cimpl_atom_d h907) (.cons (cl_cons (c := GTerm.c) (x := u6z) (GTerm.c_eq u6z) (cl_cons (c := GTerm.c) (x := u70) (GTerm.c_eq u70) (cl_nil GTerm.c))) (.cons (cimpl_structure_d h908) .nil)))) ?_
      obtain rfl := Option.some.inj h; exact Wc.ret dn
    · refine Wc.cF h905 ?_
      refine Wc.fx [] ⟨[tS 1 u1g, tP 4 4, tS 5 u56], [(4, .cells [aI 0, .str (bs []), aI 0, .slx] [(3, .ex 41 true (List.map GTerm.c []))])], []⟩ ?_
      refine Wc.skip ?_
      apply Wc.seq
      obtain ⟨u71, h909, h⟩ := obind h
      obtain ⟨u72, h910, h⟩ := obind h
      obtain ⟨u9f, h911, h⟩ := obind h
      refine Wc.r2 [{}, { r := some (.v (.agg (GTerm.qx u71)) (GTerm.h3_41t u71)) }, {}, { r := some (.v (.agg (GTerm.qx u72)) (GTerm.h3_41t u72)) }, { c := some (List.map GTerm.c [u71, u72]), tk := [17, 19], md := 2 }, { tk := [20], r := some (.v (.agg (GTerm.qx u9f)) (GTerm.h3_41t u9f)) }, { tk := [21] }] ⟨[tP 4 4], [(4, .cells (GTerm.qx u9f) (GTerm.h3_41t u9f))], []⟩ (.cons (cimpl_atom_d h909) (.cons (cimpl_atom_d h910) (.cons (cl_cons (c := GTerm.c) (x := u71) (GTerm.c_eq u71) (cl_cons (c := GTerm.c) (x := u72) (GTerm.c_eq u72) (cl_nil GTerm.c))) (.cons (cimpl_structure_d h911) .nil)))) ?_
      obtain rfl := Option.some.inj h; exact Wc.ret dn

def plaws_FnEvals (k : Nat) (u0i : List Int) : Option Bool :=
  (plaws_big k u0i).bind fun ue8 =>
  if ue8 = true then
    some true
  else
    (pspec_DrawPlaces k u0i).bind fun zi =>
    (at' zi 0).bind fun vg =>
    (at' zi 1).bind fun u0q =>
    (pimpl_Eval k (GBinds.mk []) (GTerm.mk 4 (bs [42]) 0 [GTerm.mk 4 (bs [43]) 0 [GTerm.mk 3 (bs []) vg [], GTerm.mk 3 (bs []) u0q []], GTerm.mk 3 (bs []) vg []])).bind fun u0c =>
    (pimpl_Eval k (GBinds.mk []) (GTerm.mk 4 (bs [47, 47]) 0 [GTerm.mk 4 (bs [42]) 0 [GTerm.mk 4 (bs [43]) 0 [GTerm.mk 3 (bs []) vg [], GTerm.mk 3 (bs []) u0q []], GTerm.mk 3 (bs []) vg []], GTerm.mk 3 (bs []) 0 []])).bind fun u4e =>
    (pspec_DrawEval k u0i).bind fun u3w =>
    (pimpl_Eval k u3w.1 u3w.2).bind fun u1h =>
    (pspec_Eval k u3w.1 u3w.2).bind fun u2c =>
    (pspec_DrawErrorTerm k u0i).bind fun u0v =>
    (at' zi 0).bind fun ucd =>
    (at' zi 1).bind fun uce =>
    (at' zi 0).bind fun ucf =>
    if (decide ((wr.i64 ((wr.i64 (ucd + uce)) * ucf)) > 999999999)) = true then
      if (u0c.2 == 3) = true then
        if (u1h.1 == u2c.1) = true then
          if (u1h.2 == u2c.2) = true then
            (pimpl_ErrorTerm_d k u0v.1 u0v.2).bind fun ue9 =>
            (pspec_ErrorTerm k u0v.1 u0v.2).bind fun uek =>
            (pspec_SameTerm k ue9 uek).bind fun uea =>
            some uea
          else
            some false
        else
          some false
      else
        if (u0c.2 == 0) = true then
          (at' zi 0).bind fun zz =>
          (at' zi 1).bind fun u00 =>
          (at' zi 0).bind fun u01 =>
          if (u0c.1 == (wr.i64 ((wr.i64 (zz + u00)) * u01))) = true then
            if (u1h.1 == u2c.1) = true then
              if (u1h.2 == u2c.2) = true then
                (pimpl_ErrorTerm_d k u0v.1 u0v.2).bind fun u57 =>
                (pspec_ErrorTerm k u0v.1 u0v.2).bind fun u73 =>
                (pspec_SameTerm k u57 u73).bind fun u58 =>
                some u58
              else
                some false
            else
              some false
          else
            some false
        else
          some false
    else
      if (u0c.2 == 0) = true then
        (at' zi 0).bind fun zz =>
        (at' zi 1).bind fun u00 =>
        (at' zi 0).bind fun u01 =>
        if (u0c.1 == (wr.i64 ((wr.i64 (zz + u00)) * u01))) = true then
          if (u4e.2 == 4) = true then
            if (u1h.1 == u2c.1) = true then
              if (u1h.2 == u2c.2) = true then
                (pimpl_ErrorTerm_d k u0v.1 u0v.2).bind fun u57 =>
                (pspec_ErrorTerm k u0v.1 u0v.2).bind fun u73 =>
                (pspec_SameTerm k u57 u73).bind fun u58 =>
                some u58
              else
                some false
            else
              some false
          else
            some false
        else
          some false
      else
        some false
set_option maxHeartbeats 4000000 in
theorem claws_FnEvals {k : Nat} {u0i : List Int} {r : Bool} (h : plaws_FnEvals k u0i = some r) : FnO Try.prog 4 [.v (.sl (List.map cI.u8 u0i)) []] (.v (.bool r) []) [] := by
  refine FnO.o2 Try.func4 (rfl : Try.f4.body = some _) ?_
  intro w0 X0 Fin pv0 pb gt
  unfold plaws_FnEvals at h
  apply Wc.seq
  refine Wc.r0 ⟨[tV 0 (.sl (List.map cI.u8 u0i))], [], []⟩ ?_
  apply Wc.seq
  apply Wc.seq
  obtain ⟨ue8, h875, h⟩ := obind h
  refine Wc.r2 [{}, { r := some (.v (.bool ue8) []) }] ⟨[tV 0 (.sl (List.map cI.u8 u0i)), tB 23 ue8], [], []⟩ (.cons (claws_big h875) .nil) ?_
  rcases oif h with ⟨h876, h⟩ | ⟨h876, h⟩
  · refine Wc.cT h876 ?_
    apply Wc.seq
    refine Wc.r0 ⟨[tB 2 true], [], []⟩ ?_
    obtain rfl := Option.some.inj h; exact Wc.ret dn
  · refine Wc.cF h876 ?_
    refine Wc.fx [] ⟨[tV 0 (.sl (List.map cI.u8 u0i))], [], []⟩ ?_
    refine Wc.skip ?_
    apply Wc.seq
    obtain ⟨zi, h877, h⟩ := obind h
    refine Wc.r2 [{}, { r := some (.v (.sl (List.map cI.i64 zi)) [(0, .app 3)]) }, { tk := [25] }] ⟨[tV 0 (.sl (List.map cI.u8 u0i)), (3, (.v (.sl (List.map cI.i64 zi)), [(0, .app 3)]))], [], []⟩ (.cons (cspec_DrawPlaces h877) .nil) ?_
    apply Wc.seq
    obtain ⟨vg, h878, h⟩ := obind h
    refine Wc.r2 [{}, { v := some (.vptr [aI vg]) }, {}, {}, {}, { tk := [29] }] ⟨[tV 0 (.sl (List.map cI.u8 u0i)), (3, (.v (.sl (List.map cI.i64 zi)), [(0, .app 3)])), tP 4 4], [(4, .cells [aI 3, .str (bs []), aI vg, .sl (List.map GTerm.c [])] [(3, .app 41)])], []⟩ (.cons (at_obl (c := cI.i64) rfl cI.i64_len h878) (.cons (len_ok 1 [aI vg]) .nil)) ?_
    apply Wc.seq
    obtain ⟨u0q, h879, h⟩ := obind h
    refine Wc.r2 [{}, { v := some (.vptr [aI u0q]) }, {}, {}, {}, { tk := [33] }] ⟨[tV 0 (.sl (List.map cI.u8 u0i)), (3, (.v (.sl (List.map cI.i64 zi)), [(0, .app 3)])), tP 4 4, tP 5 5], [(4, .cells [aI 3, .str (bs []), aI vg, .sl (List.map GTerm.c [])] [(3, .app 41)]), (5, .cells [aI 3, .str (bs []), aI u0q, .sl (List.map GTerm.c [])] [(3, .app 41)])], []⟩ (.cons (at_obl (c := cI.i64) rfl cI.i64_len h879) (.cons (len_ok 1 [aI u0q]) .nil)) ?_
    apply Wc.seq
    refine Wc.r2 [{}, {}, { c := some (List.map GTerm.c [GTerm.mk 3 (bs []) vg [], GTerm.mk 3 (bs []) u0q []]) }, { tk := [36] }, {}, { tk := [37] }] ⟨[tV 0 (.sl (List.map cI.u8 u0i)), (3, (.v (.sl (List.map cI.i64 zi)), [(0, .app 3)])), tP 4 4, tP 6 6], [(4, .cells [aI 3, .str (bs []), aI vg, .sl (List.map GTerm.c [])] [(3, .app 41)]), (6, .cells [aI 4, .str (bs [43]), aI 0, .sl (List.map GTerm.c [GTerm.mk 3 (bs []) vg [], GTerm.mk 3 (bs []) u0q []])] [(3, .app 41)])], []⟩ (.cons (cl_cons (c := GTerm.c) (x := GTerm.mk 3 (bs []) vg []) (GTerm.c_eq (GTerm.mk 3 (bs []) vg [])) (cl_cons (c := GTerm.c) (x := GTerm.mk 3 (bs []) u0q []) (GTerm.c_eq (GTerm.mk 3 (bs []) u0q [])) (cl_nil GTerm.c))) .nil) ?_
    apply Wc.seq
    refine Wc.r2 [{}, {}, { c := some (List.map GTerm.c [GTerm.mk 4 (bs [43]) 0 [GTerm.mk 3 (bs []) vg [], GTerm.mk 3 (bs []) u0q []], GTerm.mk 3 (bs []) vg []]) }, { tk := [40] }, {}, { tk := [41] }] ⟨[tV 0 (.sl (List.map cI.u8 u0i)), (3, (.v (.sl (List.map cI.i64 zi)), [(0, .app 3)])), tP 7 7], [(7, .cells [aI 4, .str (bs [42]), aI 0, .sl (List.map GTerm.c [GTerm.mk 4 (bs [43]) 0 [GTerm.mk 3 (bs []) vg [], GTerm.mk 3 (bs []) u0q []], GTerm.mk 3 (bs []) vg []])] [(3, .app 41)])], []⟩ (.cons (cl_cons (c := GTerm.c) (x := GTerm.mk 4 (bs [43]) 0 [GTerm.mk 3 (bs []) vg [], GTerm.mk 3 (bs []) u0q []]) (GTerm.c_eq (GTerm.mk 4 (bs [43]) 0 [GTerm.mk 3 (bs []) vg [], GTerm.mk 3 (bs []) u0q []])) (cl_cons (c := GTerm.c) (x := GTerm.mk 3 (bs []) vg []) (GTerm.c_eq (GTerm.mk 3 (bs []) vg [])) (cl_nil GTerm.c))) .nil) ?_
    apply Wc.seq
    refine Wc.r2 [{}, {}, { c := some (List.map GTerm.c [GTerm.mk 4 (bs [42]) 0 [GTerm.mk 4 (bs [43]) 0 [GTerm.mk 3 (bs []) vg [], GTerm.mk 3 (bs []) u0q []], GTerm.mk 3 (bs []) vg []], GTerm.mk 3 (bs []) 0 []]) }, { tk := [44] }, {}, { tk := [45] }] ⟨[tV 0 (.sl (List.map cI.u8 u0i)), (3, (.v (.sl (List.map cI.i64 zi)), [(0, .app 3)])), tP 7 7, tP 8 8], [(7, .cells [aI 4, .str (bs [42]), aI 0, .sl (List.map GTerm.c [GTerm.mk 4 (bs [43]) 0 [GTerm.mk 3 (bs []) vg [], GTerm.mk 3 (bs []) u0q []], GTerm.mk 3 (bs []) vg []])] [(3, .app 41)]), (8, .cells [aI 4, .str (bs [47, 47]), aI 0, .sl (List.map GTerm.c [GTerm.mk 4 (bs [42]) 0 [GTerm.mk 4 (bs [43]) 0 [GTerm.mk 3 (bs []) vg [], GTerm.mk 3 (bs []) u0q []], GTerm.mk 3 (bs []) vg []], GTerm.mk 3 (bs []) 0 []])] [(3, .app 41)])], []⟩ (.cons (cl_cons (c := GTerm.c) (x := GTerm.mk 4 (bs [42]) 0 [GTerm.mk 4 (bs [43]) 0 [GTerm.mk 3 (bs []) vg [], GTerm.mk 3 (bs []) u0q []], GTerm.mk 3 (bs []) vg []]) (GTerm.c_eq (GTerm.mk 4 (bs [42]) 0 [GTerm.mk 4 (bs [43]) 0 [GTerm.mk 3 (bs []) vg [], GTerm.mk 3 (bs []) u0q []], GTerm.mk 3 (bs []) vg []])) (cl_cons (c := GTerm.c) (x := GTerm.mk 3 (bs []) 0 []) (GTerm.c_eq (GTerm.mk 3 (bs []) 0 [])) (cl_nil GTerm.c))) .nil) ?_
    apply Wc.seq
    obtain ⟨u0c, h880, h⟩ := obind h
    refine Wc.r2 [{}, {}, { r := some (.v (.tup [aI u0c.1, aI u0c.2]) []) }] ⟨[tV 0 (.sl (List.map cI.u8 u0i)), (3, (.v (.sl (List.map cI.i64 zi)), [(0, .app 3)])), tP 8 8, tI 9 u0c.1, tI 10 u0c.2], [(8, .cells [aI 4, .str (bs [47, 47]), aI 0, .sl (List.map GTerm.c [GTerm.mk 4 (bs [42]) 0 [GTerm.mk 4 (bs [43]) 0 [GTerm.mk 3 (bs []) vg [], GTerm.mk 3 (bs []) u0q []], GTerm.mk 3 (bs []) vg []], GTerm.mk 3 (bs []) 0 []])] [(3, .app 41)])], []⟩ (.cons (cimpl_Eval h880) .nil) ?_
    apply Wc.seq
    obtain ⟨u4e, h881, h⟩ := obind h
    refine Wc.r2 [{}, {}, { r := some (.v (.tup [aI u4e.1, aI u4e.2]) []) }] ⟨[tV 0 (.sl (List.map cI.u8 u0i)), (3, (.v (.sl (List.map cI.i64 zi)), [(0, .app 3)])), tI 9 u0c.1, tI 10 u0c.2, tI 12 u4e.2], [], []⟩ (.cons (cimpl_Eval h881) .nil) ?_
    apply Wc.seq
    obtain ⟨u3w, h882, h⟩ := obind h
    refine Wc.r2 [{}, { r := some (.v (.tup [.agg [.sl (List.map GTerm.c u3w.1.gList)], .agg (GTerm.q u3w.2)]) []) }] ⟨[tV 0 (.sl (List.map cI.u8 u0i)), (3, (.v (.sl (List.map cI.i64 zi)), [(0, .app 3)])), tI 9 u0c.1, tI 10 u0c.2, tI 12 u4e.2, tP 13 13, tP 14 14], [bC 13 [.sl (List.map GTerm.c u3w.1.gList)], bC 14 (GTerm.q u3w.2)], []⟩ (.cons (cspec_DrawEval h882) .nil) ?_
    apply Wc.seq
    obtain ⟨u1h, h883, h⟩ := obind h
    refine Wc.r2 [{}, {}, { r := some (.v (.tup [aI u1h.1, aI u1h.2]) []) }] ⟨[tV 0 (.sl (List.map cI.u8 u0i)), (3, (.v (.sl (List.map cI.i64 zi)), [(0, .app 3)])), tI 9 u0c.1, tI 10 u0c.2, tI 12 u4e.2, tP 13 13, tP 14 14, tI 15 u1h.1, tI 16 u1h.2], [bC 13 [.sl (List.map GTerm.c u3w.1.gList)], bC 14 (GTerm.q u3w.2)], []⟩ (.cons (cimpl_Eval h883) .nil) ?_
    apply Wc.seq
    obtain ⟨u2c, h884, h⟩ := obind h
    refine Wc.r2 [{}, {}, { r := some (.v (.tup [aI u2c.1, aI u2c.2]) []) }] ⟨[tV 0 (.sl (List.map cI.u8 u0i)), (3, (.v (.sl (List.map cI.i64 zi)), [(0, .app 3)])), tI 9 u0c.1, tI 10 u0c.2, tI 12 u4e.2, tI 15 u1h.1, tI 16 u1h.2, tI 17 u2c.1, tI 18 u2c.2], [], []⟩ (.cons (cspec_Eval h884) .nil) ?_
    apply Wc.seq
    obtain ⟨u0v, h885, h⟩ := obind h
    refine Wc.r2 [{}, { r := some (.v (.tup [aI u0v.1, .str u0v.2]) []) }] ⟨[(3, (.v (.sl (List.map cI.i64 zi)), [(0, .app 3)])), tI 9 u0c.1, tI 10 u0c.2, tI 12 u4e.2, tI 15 u1h.1, tI 16 u1h.2, tI 17 u2c.1, tI 18 u2c.2, tI 19 u0v.1, tS 20 u0v.2], [], []⟩ (.cons (cspec_DrawErrorTerm h885) .nil) ?_
    apply Wc.seq
    obtain ⟨ucd, h886, h⟩ := obind h
    obtain ⟨uce, h887, h⟩ := obind h
    obtain ⟨ucf, h888, h⟩ := obind h
    refine Wc.draw hmix [{}, { v := some (.vptr [aI ucd]) }, {}, {}, { v := some (.vptr [aI uce]) }, {}, {}, {}, { v := some (.vptr [aI ucf]) }] [] [3, 9, 10, 12, 15, 16, 17, 18, 19, 20, 21] [] [] ⟨[(3, (.v (.sl (List.map cI.i64 zi)), [(0, .app 3)])), tI 9 u0c.1, tI 10 u0c.2, tI 12 u4e.2, tI 15 u1h.1, tI 16 u1h.2, tI 17 u2c.1, tI 18 u2c.2, tI 19 u0v.1, tS 20 u0v.2, tB 21 (decide ((wr.i64 ((wr.i64 (ucd + uce)) * ucf)) > 999999999))], [], []⟩ _ (by kernel_rfl) (fun X => by kernel_rfl) (.cons (at_obl (c := cI.i64) rfl cI.i64_len h886) (.cons (len_ok 1 [aI ucd]) (.cons (at_obl (c := cI.i64) rfl cI.i64_len h887) (.cons (len_ok 1 [aI uce]) (.cons (at_obl (c := cI.i64) rfl cI.i64_len h888) (.cons (len_ok 1 [aI ucf]) .nil)))))) ?_
    apply Wc.seq
    rcases oif h with ⟨h889, h⟩ | ⟨h889, h⟩
    · rcases oif h with ⟨h890, h⟩ | ⟨h890, h⟩
      · rcases oif h with ⟨h891, h⟩ | ⟨h891, h⟩
        · rcases oif h with ⟨h892, h⟩ | ⟨h892, h⟩
          · obtain ⟨ue9, h893, h⟩ := obind h
            obtain ⟨uek, h894, h⟩ := obind h
            obtain ⟨uea, h895, h⟩ := obind h
            refine Wc.draw hmix [{}, { re := some (.bool true) }, {}, {}, {}, { re := some (.bool true) }, {}, {}, {}, {}, {}, {}, {}, {}, {}, {}, {}, {}, {}, {}, {}, {}, {}, {}, {}, {}, { re := some (.bool true) }, {}, {}, {}, {}, {}, {}, {}, {}, {}, { re := some (.bool true) }, {}, {}, {}, {}, { re := some (.bool true) }, {}, {}, { r := some (.v (.agg (GTerm.qx ue9)) (GTerm.h3_41t ue9)) }, {}, {}, { r := some (.v (.agg (GTerm.q uek)) [(3, .app 41)]) }, { r := some (.v (.bool uea) []) }] [] [2] [] [] ⟨[tB 2 uea], [], []⟩ _ (by kernel_rfl) (fun X => by kernel_rfl) (.cons (congrArg AV.bool h889) (.cons (congrArg AV.bool h890) (.cons (congrArg AV.bool h889) (.cons (congrArg AV.bool h891) (.cons (congrArg AV.bool h892) (.cons (cimpl_ErrorTerm_d h893) (.cons (cspec_ErrorTerm h894) (.cons (cspec_SameTerm h895) .nil)))))))) ?_
            obtain rfl := Option.some.inj h; exact Wc.ret dn
          · refine Wc.draw hmix [{}, { re := some (.bool true) }, {}, {}, {}, { re := some (.bool true) }, {}, {}, {}, {}, {}, {}, {}, {}, {}, {}, {}, {}, {}, {}, {}, {}, {}, {}, {}, {}, { re := some (.bool true) }, {}, {}, {}, {}, {}, {}, {}, {}, {}, { re := some (.bool true) }, {}, {}, {}, {}, { re := some (.bool false) }] [] [2] [] [] ⟨[tB 2 false], [], []⟩ _ (by kernel_rfl) (fun X => by kernel_rfl) (.cons (congrArg AV.bool h889) (.cons (congrArg AV.bool h890) (.cons (congrArg AV.bool h889) (.cons (congrArg AV.bool h891) (.cons (congrArg AV.bool h892) .nil))))) ?_
            obtain rfl := Option.some.inj h; exact Wc.ret dn
        · refine Wc.draw hmix [{}, { re := some (.bool true) }, {}, {}, {}, { re := some (.bool true) }, {}, {}, {}, {}, {}, {}, {}, {}, {}, {}, {}, {}, {}, {}, {}, {}, {}, {}, {}, {}, { re := some (.bool true) }, {}, {}, {}, {}, {}, {}, {}, {}, {}, { re := some (.bool false) }] [] [2] [] [] ⟨[tB 2 false], [], []⟩ _ (by kernel_rfl) (fun X => by kernel_rfl) (.cons (congrArg AV.bool h889) (.cons (congrArg AV.bool h890) (.cons (congrArg AV.bool h889) (.cons (congrArg AV.bool h891) .nil)))) ?_
          obtain rfl := Option.some.inj h; exact Wc.ret dn
      · rcases oif h with ⟨h891, h⟩ | ⟨h891, h⟩
        · obtain ⟨zz, h892, h⟩ := obind h
          obtain ⟨u00, h893, h⟩ := obind h
          obtain ⟨u01, h894, h⟩ := obind h
          rcases oif h with ⟨h895, h⟩ | ⟨h895, h⟩
          · rcases oif h with ⟨h896, h⟩ | ⟨h896, h⟩
            · rcases oif h with ⟨h897, h⟩ | ⟨h897, h⟩
              · obtain ⟨u57, h898, h⟩ := obind h
                obtain ⟨u73, h899, h⟩ := obind h
                obtain ⟨u58, h900, h⟩ := obind h
                refine Wc.draw hmix [{}, { re := some (.bool true) }, {}, {}, {}, { re := some (.bool false) }, {}, {}, { re := some (.bool true) }, {}, {}, { v := some (.vptr [aI zz]) }, {}, {}, { v := some (.vptr [aI u00]) }, {}, {}, {}, { v := some (.vptr [aI u01]) }, {}, {}, {}, {}, {}, { re := some (.bool true) }, {}, { re := some (.bool true) }, {}, {}, {}, {}, {}, {}, {}, {}, {}, { re := some (.bool true) }, {}, {}, {}, {}, { re := some (.bool true) }, {}, {}, { r := some (.v (.agg (GTerm.qx u57)) (GTerm.h3_41t u57)) }, {}, {}, { r := some (.v (.agg (GTerm.q u73)) [(3, .app 41)]) }, { r := some (.v (.bool u58) []) }] [] [2] [] [] ⟨[tB 2 u58], [], []⟩ _ (by kernel_rfl) (fun X => by kernel_rfl) (.cons (congrArg AV.bool h889) (.cons (congrArg AV.bool h890) (.cons (congrArg AV.bool h891) (.cons (at_obl (c := cI.i64) rfl cI.i64_len h892) (.cons (len_ok 1 [aI zz]) (.cons (at_obl (c := cI.i64) rfl cI.i64_len h893) (.cons (len_ok 1 [aI u00]) (.cons (at_obl (c := cI.i64) rfl cI.i64_len h894) (.cons (len_ok 1 [aI u01]) (.cons (congrArg AV.bool h895) (.cons (congrArg AV.bool h889) (.cons (congrArg AV.bool h896) (.cons (congrArg AV.bool h897) (.cons (cimpl_ErrorTerm_d h898) (.cons (cspec_ErrorTerm h899) (.cons (cspec_SameTerm h900) .nil)))))))))))))))) ?_
                obtain rfl := Option.some.inj h; exact Wc.ret dn
              · refine Wc.draw hmix [{}, { re := some (.bool true) }, {}, {}, {}, { re := some (.bool false) }, {}, {}, { re := some (.bool true) }, {}, {}, { v := some (.vptr [aI zz]) }, {}, {}, { v := some (.vptr [aI u00]) }, {}, {}, {}, { v := some (.vptr [aI u01]) }, {}, {}, {}, {}, {}, { re := some (.bool true) }, {}, { re := some (.bool true) }, {}, {}, {}, {}, {}, {}, {}, {}, {}, { re := some (.bool true) }, {}, {}, {}, {}, { re := some (.bool false) }] [] [2] [] [] ⟨[tB 2 false], [], []⟩ _ (by kernel_rfl) (fun X => by kernel_rfl) (.cons (congrArg AV.bool h889) (.cons (congrArg AV.bool h890) (.cons (congrArg AV.bool h891) (.cons (at_obl (c := cI.i64) rfl cI.i64_len h892) (.cons (len_ok 1 [aI zz]) (.cons (at_obl (c := cI.i64) rfl cI.i64_len h893) (.cons (len_ok 1 [aI u00]) (.cons (at_obl (c := cI.i64) rfl cI.i64_len h894) (.cons (len_ok 1 [aI u01]) (.cons (congrArg AV.bool h895) (.cons (congrArg AV.bool h889) (.cons (congrArg AV.bool h896) (.cons (congrArg AV.bool h897) .nil))))))))))))) ?_
                obtain rfl := Option.some.inj h; exact Wc.ret dn
            · refine Wc.draw hmix [{}, { re := some (.bool true) }, {}, {}, {}, { re := some (.bool false) }, {}, {}, { re := some (.bool true) }, {}, {}, { v := some (.vptr [aI zz]) }, {}, {}, { v := some (.vptr [aI u00]) }, {}, {}, {}, { v := some (.vptr [aI u01]) }, {}, {}, {}, {}, {}, { re := some (.bool true) }, {}, { re := some (.bool true) }, {}, {}, {}, {}, {}, {}, {}, {}, {}, { re := some (.bool false) }] [] [2] [] [] ⟨[tB 2 false], [], []⟩ _ (by kernel_rfl) (fun X => by kernel_rfl) (.cons (congrArg AV.bool h889) (.cons (congrArg AV.bool h890) (.cons (congrArg AV.bool h891) (.cons (at_obl (c := cI.i64) rfl cI.i64_len h892) (.cons (len_ok 1 [aI zz]) (.cons (at_obl (c := cI.i64) rfl cI.i64_len h893) (.cons (len_ok 1 [aI u00]) (.cons (at_obl (c := cI.i64) rfl cI.i64_len h894) (.cons (len_ok 1 [aI u01]) (.cons (congrArg AV.bool h895) (.cons (congrArg AV.bool h889) (.cons (congrArg AV.bool h896) .nil)))))))))))) ?_
              obtain rfl := Option.some.inj h; exact Wc.ret dn
          · refine Wc.draw hmix [{}, { re := some (.bool true) }, {}, {}, {}, { re := some (.bool false) }, {}, {}, { re := some (.bool true) }, {}, {}, { v := some (.vptr [aI zz]) }, {}, {}, { v := some (.vptr [aI u00]) }, {}, {}, {}, { v := some (.vptr [aI u01]) }, {}, {}, {}, {}, {}, { re := some (.bool false) }] [] [2] [] [] ⟨[tB 2 false], [], []⟩ _ (by kernel_rfl) (fun X => by kernel_rfl) (.cons (congrArg AV.bool h889) (.cons (congrArg AV.bool h890) (.cons (congrArg AV.bool h891) (.cons (at_obl (c := cI.i64) rfl cI.i64_len h892) (.cons (len_ok 1 [aI zz]) (.cons (at_obl (c := cI.i64) rfl cI.i64_len h893) (.cons (len_ok 1 [aI u00]) (.cons (at_obl (c := cI.i64) rfl cI.i64_len h894) (.cons (len_ok 1 [aI u01]) (.cons (congrArg AV.bool h895) .nil)))))))))) ?_
            obtain rfl := Option.some.inj h; exact Wc.ret dn
        · refine Wc.draw hmix [{}, { re := some (.bool true) }, {}, {}, {}, { re := some (.bool false) }, {}, {}, { re := some (.bool false) }] [] [2] [] [] ⟨[tB 2 false], [], []⟩ _ (by kernel_rfl) (fun X => by kernel_rfl) (.cons (congrArg AV.bool h889) (.cons (congrArg AV.bool h890) (.cons (congrArg AV.bool h891) .nil))) ?_
          obtain rfl := Option.some.inj h; exact Wc.ret dn
    · rcases oif h with ⟨h890, h⟩ | ⟨h890, h⟩
      · obtain ⟨zz, h891, h⟩ := obind h
        obtain ⟨u00, h892, h⟩ := obind h
        obtain ⟨u01, h893, h⟩ := obind h
        rcases oif h with ⟨h894, h⟩ | ⟨h894, h⟩
        · rcases oif h with ⟨h895, h⟩ | ⟨h895, h⟩
          · rcases oif h with ⟨h896, h⟩ | ⟨h896, h⟩
            · rcases oif h with ⟨h897, h⟩ | ⟨h897, h⟩
              · obtain ⟨u57, h898, h⟩ := obind h
                obtain ⟨u73, h899, h⟩ := obind h
                obtain ⟨u58, h900, h⟩ := obind h
                refine Wc.draw hmix [{}, { re := some (.bool false) }, {}, {}, {}, {}, {}, {}, { re := some (.bool true) }, {}, {}, { v := some (.vptr [aI zz]) }, {}, {}, { v := some (.vptr [aI u00]) }, {}, {}, {}, { v := some (.vptr [aI u01]) }, {}, {}, {}, {}, {}, { re := some (.bool true) }, {}, { re := some (.bool false) }, {}, {}, {}, {}, { re := some (.bool true) }, {}, {}, {}, {}, { re := some (.bool true) }, {}, {}, {}, {}, { re := some (.bool true) }, {}, {}, { r := some (.v (.agg (GTerm.qx u57)) (GTerm.h3_41t u57)) }, {}, {}, { r := some (.v (.agg (GTerm.q u73)) [(3, .app 41)]) }, { r := some (.v (.bool u58) []) }] [] [2] [] [] ⟨[tB 2 u58], [], []⟩ _ (by kernel_rfl) (fun X => by kernel_rfl) (.cons (congrArg AV.bool h889) (.cons (congrArg AV.bool h890) (.cons (at_obl (c := cI.i64) rfl cI.i64_len h891) (.cons (len_ok 1 [aI zz]) (.cons (at_obl (c := cI.i64) rfl cI.i64_len h892) (.cons (len_ok 1 [aI u00]) (.cons (at_obl (c := cI.i64) rfl cI.i64_len h893) (.cons (len_ok 1 [aI u01]) (.cons (congrArg AV.bool h894) (.cons (congrArg AV.bool h889) (.cons (congrArg AV.bool h895) (.cons (congrArg AV.bool h896) (.cons (congrArg AV.bool h897) (.cons (cimpl_ErrorTerm_d h898) (.cons (cspec_ErrorTerm h899) (.cons (cspec_SameTerm h900) .nil)))))))))))))))) ?_
                obtain rfl := Option.some.inj h; exact Wc.ret dn
              · refine Wc.draw hmix [{}, { re := some (.bool false) }, {}, {}, {}, {}, {}, {}, { re := some (.bool true) }, {}, {}, { v := some (.vptr [aI zz]) }, {}, {}, { v := some (.vptr [aI u00]) }, {}, {}, {}, { v := some (.vptr [aI u01]) }, {}, {}, {}, {}, {}, { re := some (.bool true) }, {}, { re := some (.bool false) }, {}, {}, {}, {}, { re := some (.bool true) }, {}, {}, {}, {}, { re := some (.bool true) }, {}, {}, {}, {}, { re := some (.bool false) }] [] [2] [] [] ⟨[tB 2 false], [], []⟩ _ (by kernel_rfl) (fun X => by kernel_rfl) (.cons (congrArg AV.bool h889) (.cons (congrArg AV.bool h890) (.cons (at_obl (c := cI.i64) rfl cI.i64_len h891) (.cons (len_ok 1 [aI zz]) (.cons (at_obl (c := cI.i64) rfl cI.i64_len h892) (.cons (len_ok 1 [aI u00]) (.cons (at_obl (c := cI.i64) rfl cI.i64_len h893) (.cons (len_ok 1 [aI u01]) (.cons (congrArg AV.bool h894) (.cons (congrArg AV.bool h889) (.cons (congrArg AV.bool h895) (.cons (congrArg AV.bool h896) (.cons (congrArg AV.bool h897) .nil))))))))))))) ?_
                obtain rfl := Option.some.inj h; exact Wc.ret dn
            · refine Wc.draw hmix [{}, { re := some (.bool false) }, {}, {}, {}, {}, {}, {}, { re := some (.bool true) }, {}, {}, { v := some (.vptr [aI zz]) }, {}, {}, { v := some (.vptr [aI u00]) }, {}, {}, {}, { v := some (.vptr [aI u01]) }, {}, {}, {}, {}, {}, { re := some (.bool true) }, {}, { re := some (.bool false) }, {}, {}, {}, {}, { re := some (.bool true) }, {}, {}, {}, {}, { re := some (.bool false) }] [] [2] [] [] ⟨[tB 2 false], [], []⟩ _ (by kernel_rfl) (fun X => by kernel_rfl) (.cons (congrArg AV.bool h889) (.cons (congrArg AV.bool h890) (.cons (at_obl (c := cI.i64) rfl cI.i64_len h891) (.cons (len_ok 1 [aI zz]) (.cons (at_obl (c := cI.i64) rfl cI.i64_len h892) (.cons (len_ok 1 [aI u00]) (.cons (at_obl (c := cI.i64) rfl cI.i64_len h893) (.cons (len_ok 1 [aI u01]) (.cons (congrArg AV.bool h894) (.cons (congrArg AV.bool h889) (.cons (congrArg AV.bool h895) (.cons (congrArg AV.bool h896) .nil)))))))))))) ?_
              obtain rfl := Option.some.inj h; exact Wc.ret dn
          · refine Wc.draw hmix [{}, { re := some (.bool false) }, {}, {}, {}, {}, {}, {}, { re := some (.bool true) }, {}, {}, { v := some (.vptr [aI zz]) }, {}, {}, { v := some (.vptr [aI u00]) }, {}, {}, {}, { v := some (.vptr [aI u01]) }, {}, {}, {}, {}, {}, { re := some (.bool true) }, {}, { re := some (.bool false) }, {}, {}, {}, {}, { re := some (.bool false) }] [] [2] [] [] ⟨[tB 2 false], [], []⟩ _ (by kernel_rfl) (fun X => by kernel_rfl) (.cons (congrArg AV.bool h889) (.cons (congrArg AV.bool h890) (.cons (at_obl (c := cI.i64) rfl cI.i64_len h891) (.cons (len_ok 1 [aI zz]) (.cons (at_obl (c := cI.i64) rfl cI.i64_len h892) (.cons (len_ok 1 [aI u00]) (.cons (at_obl (c := cI.i64) rfl cI.i64_len h893) (.cons (len_ok 1 [aI u01]) (.cons (congrArg AV.bool h894) (.cons (congrArg AV.bool h889) (.cons (congrArg AV.bool h895) .nil))))))))))) ?_
            obtain rfl := Option.some.inj h; exact Wc.ret dn
        · refine Wc.draw hmix [{}, { re := some (.bool false) }, {}, {}, {}, {}, {}, {}, { re := some (.bool true) }, {}, {}, { v := some (.vptr [aI zz]) }, {}, {}, { v := some (.vptr [aI u00]) }, {}, {}, {}, { v := some (.vptr [aI u01]) }, {}, {}, {}, {}, {}, { re := some (.bool false) }] [] [2] [] [] ⟨[tB 2 false], [], []⟩ _ (by kernel_rfl) (fun X => by kernel_rfl) (.cons (congrArg AV.bool h889) (.cons (congrArg AV.bool h890) (.cons (at_obl (c := cI.i64) rfl cI.i64_len h891) (.cons (len_ok 1 [aI zz]) (.cons (at_obl (c := cI.i64) rfl cI.i64_len h892) (.cons (len_ok 1 [aI u00]) (.cons (at_obl (c := cI.i64) rfl cI.i64_len h893) (.cons (len_ok 1 [aI u01]) (.cons (congrArg AV.bool h894) .nil))))))))) ?_
          obtain rfl := Option.some.inj h; exact Wc.ret dn
      · refine Wc.draw hmix [{}, { re := some (.bool false) }, {}, {}, {}, {}, {}, {}, { re := some (.bool false) }] [] [2] [] [] ⟨[tB 2 false], [], []⟩ _ (by kernel_rfl) (fun X => by kernel_rfl) (.cons (congrArg AV.bool h889) (.cons (congrArg AV.bool h890) .nil)) ?_
        obtain rfl := Option.some.inj h; exact Wc.ret dn
end Go.Proofs.Ytkmifafdenblcaa

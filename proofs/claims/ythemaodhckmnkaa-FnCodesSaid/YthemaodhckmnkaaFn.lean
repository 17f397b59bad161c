/- What the functions do, part 3. -/
import Derived.Test.YthemaodhckmnkaaFnb
set_option linter.unusedVariables false
set_option linter.unusedSimpArgs false
namespace Go.Proofs.Ythemaodhckmnkaa
open Go.RowKit Go.Bv
def pspec_l12Any (k : Nat) (ubf : GL01Cur) : Option (GL01Cur × (List GIns)) :=
  (pspec_l01Below k ubf 10).bind fun u0n =>
  (pspec_l01Below k u0n.1 60).bind fun ut =>
  (pspec_l03Term k ut.1).bind fun vv =>
  (pspec_WordsOf_d k vv.2 []).bind fun ue =>
  if ([] : List GIns).length + ue.1.length ≤ 1073741824 then
    if ((ue.1.length : Int) : Int) ≠ 0 then
      if (u0n.2 == 0) = true then
        if (7 : Int) ≠ 0 then
          (at' ue.1 (Int.tmod ut.2 (ue.1.length : Int))).bind fun u0y =>
          some (vv.1, ue.1.set ((Int.tmod ut.2 (ue.1.length : Int)).toNat) (GIns.mk (Int.tmod ut.2 7) u0y.gName u0y.gNum u0y.gMany))
        else none
      else
        if (u0n.2 == 1) = true then
          if (7 : Int) ≠ 0 then
            (at' ue.1 (Int.tmod ut.2 (ue.1.length : Int))).bind fun u0z =>
            some (vv.1, ue.1.set ((Int.tmod ut.2 (ue.1.length : Int)).toNat) (GIns.mk u0z.gOp u0z.gName u0z.gNum (Int.tmod ut.2 7)))
          else none
        else
          if (u0n.2 == 2) = true then
            if 0 ≤ (Int.tmod ut.2 (ue.1.length : Int)) ∧ (Int.tmod ut.2 (ue.1.length : Int)) ≤ (ue.1.length : Int) then
              some (vv.1, ue.1.take ((Int.tmod ut.2 (ue.1.length : Int))).toNat)
            else none
          else
            if (u0n.2 == 3) = true then
              (at' ue.1 0).bind fun u2k =>
              if ue.1.length + [u2k].length ≤ 1073741824 then
                some (vv.1, ue.1 ++ [u2k])
              else none
            else
              some (vv.1, ue.1)
    else none
  else none
set_option maxHeartbeats 4000000 in
theorem cspec_l12Any {k : Nat} {ubf : GL01Cur} {r : GL01Cur × (List GIns)} (h : pspec_l12Any k ubf = some r) : FnO Try.prog 105 [.p (GL01Cur.q ubf) []] (.v (.sl (List.map GIns.c r.2)) []) [(0, .p (GL01Cur.q r.1) [])] := by
  refine FnO.o2 Try.func105 (rfl : Try.f105.body = some _) ?_
  intro w0 X0 Fin pv0 pb
  unfold pspec_l12Any at h
  apply Wc.seq
  refine Wc.r0 ⟨[tP 0 1000000], [bC 1000000 (GL01Cur.q ubf)], []⟩ ?_
  apply Wc.seq
  obtain ⟨u0n, h929, h⟩ := obind h
  refine Wc.r2 [{}, { r := some (.v (aI u0n.2) []), outs := [(0, .p (GL01Cur.q u0n.1) [])] }] ⟨[tP 0 1000000, tI 3 u0n.2], [bC 1000000 (GL01Cur.q u0n.1)], []⟩ (.cons (cspec_l01Below h929) .nil) ?_
  apply Wc.seq
  obtain ⟨ut, h930, h⟩ := obind h
  refine Wc.r2 [{}, { r := some (.v (aI ut.2) []), outs := [(0, .p (GL01Cur.q ut.1) [])] }] ⟨[tP 0 1000000, tI 3 u0n.2, tI 4 ut.2], [bC 1000000 (GL01Cur.q ut.1)], []⟩ (.cons (cspec_l01Below h930) .nil) ?_
  apply Wc.seq
  obtain ⟨vv, h931, h⟩ := obind h
  obtain ⟨ue, h932, h⟩ := obind h
  refine Wc.r2 [{}, { r := some (.v (.agg (GTerm.q vv.2)) [(3, .app 41)]), outs := [(0, .p (GL01Cur.q vv.1) [])] }, { c := some (List.map cI.i64 []) }, { r := some (.v (.tup [.slx, .slx]) [(0, .ex 128 true (List.map GIns.c ue.1)), (1, .ex 3 true (List.map cI.i64 ue.2))]) }, { tk := [16] }, { tk := [12] }, { tk := [12] }, { tk := [17] }, { tk := [18] }] ⟨[tI 3 u0n.2, tI 4 ut.2, (5, (.v (.slx), [(0, .ex 128 true (List.map GIns.c ue.1))]))], [bC 1000000 (GL01Cur.q vv.1)], []⟩ (.cons (cspec_l03Term h931) (.cons (cl_nil cI.i64) (.cons (cspec_WordsOf_d h932) .nil))) ?_
  apply Wc.seq
  obtain ⟨h933, h⟩ := oguard h
  refine Wc.r2 [{ c := some (List.map GIns.c []), md := 1 }, { tk := [5] }, { c := some (List.map GIns.c ue.1), tk := [19], md := 1 }, { tk := [21] }] ⟨[tI 3 u0n.2, tI 4 ut.2, (5, (.v (.slx), [(0, .ex 128 false (List.map GIns.c ue.1))]))], [bC 1000000 (GL01Cur.q vv.1)], []⟩ (.cons (cl_nil GIns.c) (.cons (app_re0 GIns.c ue.1) (.cons (app_scal (c := GIns.c) (ys := ue.1) GIns.c_scal) (.cons (app_obl2 (c := GIns.c) (xs := []) (ys := ue.1) GIns.c_len h933) .nil)))) ?_
  apply Wc.seq
  obtain ⟨h934, h⟩ := oguard h
  refine Wc.r2 [{}, {}, { v := some (aI (ue.1.length : Int)) }] ⟨[tI 3 u0n.2, tI 4 ut.2, (5, (.v (.slx), [(0, .ex 128 false (List.map GIns.c ue.1))])), tI 7 (Int.tmod ut.2 (ue.1.length : Int))], [bC 1000000 (GL01Cur.q vv.1)], []⟩ (.cons (len_obl GIns.c ue.1) (.cons h934 .nil)) ?_
  apply Wc.seq
  apply Wc.seq
  refine Wc.r0 ⟨[tI 4 ut.2, (5, (.v (.slx), [(0, .ex 128 false (List.map GIns.c ue.1))])), tI 7 (Int.tmod ut.2 (ue.1.length : Int)), tI 26 u0n.2], [bC 1000000 (GL01Cur.q vv.1)], []⟩ ?_
  refine Wc.block ?_
  apply Wc.seq
  refine Wc.r0 ⟨[tI 4 ut.2, (5, (.v (.slx), [(0, .ex 128 false (List.map GIns.c ue.1))])), tI 7 (Int.tmod ut.2 (ue.1.length : Int)), tI 26 u0n.2, tB 27 (u0n.2 == 0)], [bC 1000000 (GL01Cur.q vv.1)], []⟩ ?_
  rcases oif h with ⟨h935, h⟩ | ⟨h935, h⟩
  · refine Wc.cT h935 ?_
    obtain ⟨h936, h⟩ := oguard h
    obtain ⟨u0y, h937, h⟩ := obind h
    refine Wc.r2 [{}, {}, {}, {}, {}, {}, { c := some (List.map GIns.c (ue.1.set ((Int.tmod ut.2 (ue.1.length : Int)).toNat) (GIns.mk (Int.tmod ut.2 7) u0y.gName u0y.gNum u0y.gMany))) }] ⟨[(5, (.v (.slx), [(0, .ex 128 false (List.map GIns.c (ue.1.set ((Int.tmod ut.2 (ue.1.length : Int)).toNat) (GIns.mk (Int.tmod ut.2 7) u0y.gName u0y.gNum u0y.gMany))))]))], [bC 1000000 (GL01Cur.q vv.1)], []⟩ (.cons h936 (.cons (ix_obl (c := GIns.c) GIns.c_len h937) (.cons (mod_obl (off := 0) (new := [aI (Int.tmod ut.2 7)]) (c := GIns.c) (GIns.c_eq u0y) (GIns.c_eq (GIns.mk (Int.tmod ut.2 7) u0y.gName u0y.gNum u0y.gMany)) (at'_spec h937).2 rfl) (.cons (st_obl (sz := 4) (off := 0) (s := 1) (c := GIns.c) (GIns.c_eq u0y) (at'_spec h937).2 rfl (Nat.le_of_ble_eq_true rfl)) .nil)))) ?_
    apply Wc.seq
    refine Wc.r1 [{ tk := [5] }, { tk := [56] }] ⟨[(2, (.v (.slx), [(0, .ex 128 false (List.map GIns.c (ue.1.set ((Int.tmod ut.2 (ue.1.length : Int)).toNat) (GIns.mk (Int.tmod ut.2 7) u0y.gName u0y.gNum u0y.gMany))))]))], [bC 1000000 (GL01Cur.q vv.1)], []⟩ ?_
    refine Wc.fx [.sh (.t 2 0)] ⟨[tV 2 (.sl (List.map GIns.c (ue.1.set ((Int.tmod ut.2 (ue.1.length : Int)).toNat) (GIns.mk (Int.tmod ut.2 7) u0y.gName u0y.gNum u0y.gMany))))], [bC 1000000 (GL01Cur.q vv.1)], []⟩ ?_
    obtain rfl := Option.some.inj h; exact Wc.ret dn
  · refine Wc.cF h935 ?_
    apply Wc.seq
    refine Wc.r0 ⟨[tI 4 ut.2, (5, (.v (.slx), [(0, .ex 128 false (List.map GIns.c ue.1))])), tI 7 (Int.tmod ut.2 (ue.1.length : Int)), tI 26 u0n.2, tB 35 (u0n.2 == 1)], [bC 1000000 (GL01Cur.q vv.1)], []⟩ ?_
    rcases oif h with ⟨h938, h⟩ | ⟨h938, h⟩
    · refine Wc.cT h938 ?_
      obtain ⟨h939, h⟩ := oguard h
      obtain ⟨u0z, h940, h⟩ := obind h
      refine Wc.r2 [{}, {}, {}, {}, {}, {}, { c := some (List.map GIns.c (ue.1.set ((Int.tmod ut.2 (ue.1.length : Int)).toNat) (GIns.mk u0z.gOp u0z.gName u0z.gNum (Int.tmod ut.2 7)))) }] ⟨[(5, (.v (.slx), [(0, .ex 128 false (List.map GIns.c (ue.1.set ((Int.tmod ut.2 (ue.1.length : Int)).toNat) (GIns.mk u0z.gOp u0z.gName u0z.gNum (Int.tmod ut.2 7)))))]))], [bC 1000000 (GL01Cur.q vv.1)], []⟩ (.cons h939 (.cons (ix_obl (c := GIns.c) GIns.c_len h940) (.cons (mod_obl (off := 3) (new := [aI (Int.tmod ut.2 7)]) (c := GIns.c) (GIns.c_eq u0z) (GIns.c_eq (GIns.mk u0z.gOp u0z.gName u0z.gNum (Int.tmod ut.2 7))) (at'_spec h940).2 rfl) (.cons (st_obl (sz := 4) (off := 3) (s := 1) (c := GIns.c) (GIns.c_eq u0z) (at'_spec h940).2 rfl (Nat.le_of_ble_eq_true rfl)) .nil)))) ?_
      apply Wc.seq
      refine Wc.r1 [{ tk := [5] }, { tk := [56] }] ⟨[(2, (.v (.slx), [(0, .ex 128 false (List.map GIns.c (ue.1.set ((Int.tmod ut.2 (ue.1.length : Int)).toNat) (GIns.mk u0z.gOp u0z.gName u0z.gNum (Int.tmod ut.2 7)))))]))], [bC 1000000 (GL01Cur.q vv.1)], []⟩ ?_
      refine Wc.fx [.sh (.t 2 0)] ⟨[tV 2 (.sl (List.map GIns.c (ue.1.set ((Int.tmod ut.2 (ue.1.length : Int)).toNat) (GIns.mk u0z.gOp u0z.gName u0z.gNum (Int.tmod ut.2 7)))))], [bC 1000000 (GL01Cur.q vv.1)], []⟩ ?_
      obtain rfl := Option.some.inj h; exact Wc.ret dn
    · refine Wc.cF h938 ?_
      apply Wc.seq
      refine Wc.r0 ⟨[(5, (.v (.slx), [(0, .ex 128 false (List.map GIns.c ue.1))])), tI 7 (Int.tmod ut.2 (ue.1.length : Int)), tI 26 u0n.2, tB 43 (u0n.2 == 2)], [bC 1000000 (GL01Cur.q vv.1)], []⟩ ?_
      rcases oif h with ⟨h941, h⟩ | ⟨h941, h⟩
      · refine Wc.cT h941 ?_
        obtain ⟨h942, h⟩ := oguard h
        refine Wc.r2 [{ tk := [5] }, {}, { c := some (List.map GIns.c (ue.1.take ((Int.tmod ut.2 (ue.1.length : Int))).toNat)), tk := [45] }, { tk := [47] }] ⟨[(5, (.v (.slx), [(0, .ex 128 false (List.map GIns.c (ue.1.take ((Int.tmod ut.2 (ue.1.length : Int))).toNat)))]))], [bC 1000000 (GL01Cur.q vv.1)], []⟩ (.cons (take_re GIns.c ue.1 (Int.tmod ut.2 (ue.1.length : Int))) (.cons (take_obl (c := GIns.c) h942) .nil)) ?_
        apply Wc.seq
        refine Wc.r1 [{ tk := [5] }, { tk := [56] }] ⟨[(2, (.v (.slx), [(0, .ex 128 false (List.map GIns.c (ue.1.take ((Int.tmod ut.2 (ue.1.length : Int))).toNat)))]))], [bC 1000000 (GL01Cur.q vv.1)], []⟩ ?_
        refine Wc.fx [.sh (.t 2 0)] ⟨[tV 2 (.sl (List.map GIns.c (ue.1.take ((Int.tmod ut.2 (ue.1.length : Int))).toNat)))], [bC 1000000 (GL01Cur.q vv.1)], []⟩ ?_
        obtain rfl := Option.some.inj h; exact Wc.ret dn
      · refine Wc.cF h941 ?_
        apply Wc.seq
        refine Wc.r0 ⟨[(5, (.v (.slx), [(0, .ex 128 false (List.map GIns.c ue.1))])), tB 48 (u0n.2 == 3)], [bC 1000000 (GL01Cur.q vv.1)], []⟩ ?_
        rcases oif h with ⟨h943, h⟩ | ⟨h943, h⟩
        · refine Wc.cT h943 ?_
          obtain ⟨u2k, h944, h⟩ := obind h
          obtain ⟨h945, h⟩ := oguard h
          refine Wc.r2 [{}, {}, {}, { v := some (.agg (GIns.q u2k)) }, { c := some (List.map GIns.c [u2k]) }, { c := some (List.map GIns.c (ue.1 ++ [u2k])), tk := [50], md := 1, fx := [.pl 50] }, { tk := [55] }] ⟨[(5, (.v (.slx), [(0, .ex 128 false (List.map GIns.c (ue.1 ++ [u2k])))]))], [bC 1000000 (GL01Cur.q vv.1)], []⟩ (.cons (ix_obl (c := GIns.c) GIns.c_len h944) (.cons (el_obl (sz := 4) (off := 0) (s := 4) (ag := true) (v := .agg (GIns.q u2k)) (c := GIns.c) (GIns.c_eq u2k) (at'_spec h944).2 rfl (Nat.le_of_ble_eq_true rfl) rfl) (.cons (cl_cons (c := GIns.c) (x := u2k) (GIns.c_eq u2k) (cl_nil GIns.c)) (.cons (app_re2 GIns.c ue.1 [u2k]) (.cons (app_leaf (c := GIns.c) (ys := [u2k]) GIns.c_leaf) (.cons (app_obl2 (c := GIns.c) (xs := ue.1) (ys := [u2k]) GIns.c_len h945) .nil)))))) ?_
          apply Wc.seq
          refine Wc.r1 [{ tk := [5] }, { tk := [56] }] ⟨[(2, (.v (.slx), [(0, .ex 128 false (List.map GIns.c (ue.1 ++ [u2k])))]))], [bC 1000000 (GL01Cur.q vv.1)], []⟩ ?_
          refine Wc.fx [.sh (.t 2 0)] ⟨[tV 2 (.sl (List.map GIns.c (ue.1 ++ [u2k])))], [bC 1000000 (GL01Cur.q vv.1)], []⟩ ?_
          obtain rfl := Option.some.inj h; exact Wc.ret dn
        · refine Wc.cF h943 ?_
          refine Wc.fx [] ⟨[(5, (.v (.slx), [(0, .ex 128 false (List.map GIns.c ue.1))]))], [bC 1000000 (GL01Cur.q vv.1)], []⟩ ?_
          refine Wc.skip ?_
          apply Wc.seq
          refine Wc.r1 [{ tk := [5] }, { tk := [56] }] ⟨[(2, (.v (.slx), [(0, .ex 128 false (List.map GIns.c ue.1))]))], [bC 1000000 (GL01Cur.q vv.1)], []⟩ ?_
          refine Wc.fx [.sh (.t 2 0)] ⟨[tV 2 (.sl (List.map GIns.c ue.1))], [bC 1000000 (GL01Cur.q vv.1)], []⟩ ?_
          obtain rfl := Option.some.inj h; exact Wc.ret dn

def pspec_DrawTermOf (k : Nat) (ubg : List Int) : Option (List GIns) :=
  (pspec_l01New k ubg).bind fun ue4 =>
  (pspec_l12Any k ue4).bind fun ubh =>
  some ubh.2
theorem cspec_DrawTermOf {k : Nat} {ubg : List Int} {r : (List GIns)} (h : pspec_DrawTermOf k ubg = some r) : FnO Try.prog 42 [.v (.sl (List.map cI.u8 ubg)) []] (.v (.sl (List.map GIns.c r)) []) [] := by
  refine FnO.o2 Try.func42 (rfl : Try.f42.body = some _) ?_
  intro w0 X0 Fin pv0 pb
  unfold pspec_DrawTermOf at h
  apply Wc.seq
  refine Wc.r0 ⟨[tV 0 (.sl (List.map cI.u8 ubg))], [], []⟩ ?_
  apply Wc.seq
  obtain ⟨ue4, h946, h⟩ := obind h
  obtain ⟨ubh, h947, h⟩ := obind h
  refine Wc.r2 [{}, { r := some (.p (GL01Cur.q ue4) []) }, { r := some (.v (.sl (List.map GIns.c ubh.2)) []), outs := [(0, .p (GL01Cur.q ubh.1) [])] }] ⟨[tV 2 (.sl (List.map GIns.c ubh.2))], [], []⟩ (.cons (cspec_l01New h946) (.cons (cspec_l12Any h947) .nil)) ?_
  obtain rfl := Option.some.inj h; exact Wc.ret dn

def pspec_l12Term_L2 (k : Nat) (rspec_l12Term : (List GIns) → Int → Int → Option (GTerm × Int)) (um : GIns) (ux : List GIns) (v6 : Int) : Nat → Int → Int → GTerm → Option (Out (GTerm × Int) (Int × GTerm))
  | 0, _, _, _ => none
  | m + 1, u43, u28, vm =>
    if (decide (u28 < um.gMany)) = true then
      if (decide (u28 < 6)) = true then
        (rspec_l12Term ux u43 (wr.i64 (v6 + 1))).bind fun zm =>
        if (decide (zm.2 < 0)) = true then
          some (.ret (GTerm.mk 0 (bs []) 0 [], -1))
        else
          if vm.gKids.length + [zm.1].length ≤ 1073741824 then
            pspec_l12Term_L2 k rspec_l12Term um ux v6 m zm.2 (wr.i64 (u28 + 1)) (GTerm.mk vm.gKind vm.gName vm.gNum (vm.gKids ++ [zm.1]))
          else none
      else
        some (.done (u43, vm))
    else
      some (.done (u43, vm))
def pspec_l12Term_J1 (k : Nat) (rspec_l12Term : (List GIns) → Int → Int → Option (GTerm × Int)) (um : GIns) (vk : Int) (ux : List GIns) (v6 : Int) (ubi : Bool) : Option (GTerm × Int) :=
  if ubi = true then
    (pspec_l03Var k um.gNum).bind fun udq =>
    some (udq, wr.i64 (vk + 1))
  else
    if (um.gOp == 5) = true then
      (pspec_l12Term_L2 k rspec_l12Term um ux v6 k (wr.i64 (vk + 1)) 0 (GTerm.mk 4 um.gName 0 [])).bind fun out2 => match out2 with
      | .ret r => some r
      | .done (u8m, u8n) =>
        some (u8n, u8m)
    else
      some (GTerm.mk 0 (bs []) 0 [], -1)
mutual
def pspec_l12Term : Nat → (List GIns) → Int → Int → Option (GTerm × Int)
  | 0, _, _, _ => none
  | k + 1, ux, vk, v6 =>
    (pspec_l01In k vk 0 (wr.i64 ((ux.length : Int) - 1))).bind fun udr =>
    if (!udr) = true then
      some (GTerm.mk 0 (bs []) 0 [], -1)
    else
      if (decide (v6 > 40)) = true then
        some (GTerm.mk 0 (bs []) 0 [], -1)
      else
        (at' ux vk).bind fun um =>
        if (um.gOp == 1) = true then
          (pspec_l03Atom k um.gName).bind fun uds =>
          some (uds, wr.i64 (vk + 1))
        else
          if (um.gOp == 2) = true then
            (pspec_l03Num k um.gNum).bind fun udt =>
            some (udt, wr.i64 (vk + 1))
          else
            if (um.gOp == 3) = true then
              pspec_l12Term_J1 k (pspec_l12Term k) um vk ux v6 (um.gOp == 3)
            else
              pspec_l12Term_J1 k (pspec_l12Term k) um vk ux v6 (um.gOp == 4)
end
set_option maxHeartbeats 4000000 in
theorem all_pspec_l12Term : ∀ k : Nat, (∀ {ux : List GIns} {vk : Int} {v6 : Int} {r : GTerm × Int}, pspec_l12Term k ux vk v6 = some r → FnO Try.prog 106 [.v (.sl (List.map GIns.c ux)) [], .v (aI vk) [], .v (aI v6) []] (.v (.tup [.agg (GTerm.q r.1), aI r.2]) [(3, .app 41)]) []) := by
  intro k
  induction k with
  | zero =>
    · intro ux vk v6 r h
      exact (onone (by rw [pspec_l12Term] at h; exact h)).elim
  | succ k ih =>
    have ih_pspec_l12Term := @ih
    · intro ux vk v6 r h
      rw [pspec_l12Term] at h
      refine FnO.o2 Try.func106 (rfl : Try.f106.body = some _) ?_
      intro w0 X0 Fin pv0 pb
      apply Wc.seq
      refine Wc.r0 ⟨[tV 0 (.sl (List.map GIns.c ux)), tI 1 vk, tI 2 v6, tP 6 6], [(6, .cells GTerm.z [(3, .app 41)])], []⟩ ?_
      apply Wc.seq
      apply Wc.seq
      obtain ⟨udr, h966, h⟩ := obind h
      rcases oif h with ⟨h967, h⟩ | ⟨h967, h⟩
      · refine Wc.r2 [{}, {}, { v := some (aI (ux.length : Int)) }, {}, { r := some (.v (.bool udr) []) }, {}, { re := some (.bool true) }] ⟨[tV 0 (.sl (List.map GIns.c ux)), tI 1 vk, tI 2 v6, tP 6 6, tB 22 true], [(6, .cells GTerm.z [(3, .app 41)])], []⟩ (.cons (len_obl GIns.c ux) (.cons (cspec_l01In h966) (.cons (congrArg AV.bool h967) .nil))) ?_
        refine Wc.cT rfl ?_
        apply Wc.seq
        refine Wc.r1 [{}, { tk := [23] }] ⟨[tP 6 6, tI 7 (-1)], [(6, .cells GTerm.z [(3, .app 41)])], []⟩ ?_
        obtain rfl := Option.some.inj h; exact Wc.ret dn
      · refine Wc.r2 [{}, {}, { v := some (aI (ux.length : Int)) }, {}, { r := some (.v (.bool udr) []) }, {}, { re := some (.bool false) }] ⟨[tV 0 (.sl (List.map GIns.c ux)), tI 1 vk, tI 2 v6, tP 6 6, tB 22 (decide (v6 > 40))], [(6, .cells GTerm.z [(3, .app 41)])], []⟩ (.cons (len_obl GIns.c ux) (.cons (cspec_l01In h966) (.cons (congrArg AV.bool h967) .nil))) ?_
        rcases oif h with ⟨h968, h⟩ | ⟨h968, h⟩
        · refine Wc.cT h968 ?_
          apply Wc.seq
          refine Wc.r1 [{}, { tk := [23] }] ⟨[tP 6 6, tI 7 (-1)], [(6, .cells GTerm.z [(3, .app 41)])], []⟩ ?_
          obtain rfl := Option.some.inj h; exact Wc.ret dn
        · refine Wc.cF h968 ?_
          refine Wc.fx [] ⟨[tV 0 (.sl (List.map GIns.c ux)), tI 1 vk, tI 2 v6, tP 6 6], [(6, .cells GTerm.z [(3, .app 41)])], []⟩ ?_
          refine Wc.skip ?_
          apply Wc.seq
          obtain ⟨um, h969, h⟩ := obind h
          refine Wc.r2 [{}, {}, { v := some (.vptr (GIns.q um)) }] ⟨[tV 0 (.sl (List.map GIns.c ux)), tI 1 vk, tI 2 v6, tP 6 6, tP 8 8], [(6, .cells GTerm.z [(3, .app 41)]), bC 8 (GIns.q um)], []⟩ (.cons (at_obl (c := GIns.c) (GIns.c_eq um) GIns.c_len h969) (.cons (len_ok 4 (GIns.q um)) .nil)) ?_
          apply Wc.seq
          refine Wc.r0 ⟨[tV 0 (.sl (List.map GIns.c ux)), tI 1 (wr.i64 (vk + 1)), tI 2 v6, tP 6 6, tP 8 8], [(6, .cells GTerm.z [(3, .app 41)]), bC 8 (GIns.q um)], []⟩ ?_
          apply Wc.seq
          apply Wc.seq
          refine Wc.r0 ⟨[tV 0 (.sl (List.map GIns.c ux)), tI 1 (wr.i64 (vk + 1)), tI 2 v6, tP 6 6, tP 8 8, tI 31 um.gOp], [(6, .cells GTerm.z [(3, .app 41)]), bC 8 (GIns.q um)], []⟩ ?_
          refine Wc.block ?_
          apply Wc.seq
          refine Wc.r0 ⟨[tV 0 (.sl (List.map GIns.c ux)), tI 1 (wr.i64 (vk + 1)), tI 2 v6, tP 6 6, tP 8 8, tI 31 um.gOp, tB 32 (um.gOp == 1)], [(6, .cells GTerm.z [(3, .app 41)]), bC 8 (GIns.q um)], []⟩ ?_
          rcases oif h with ⟨h970, h⟩ | ⟨h970, h⟩
          · refine Wc.cT h970 ?_
            apply Wc.seq
            obtain ⟨uds, h971, h⟩ := obind h
            refine Wc.r2 [{}, {}, { r := some (.v (.agg (GTerm.q uds)) [(3, .app 41)]) }, {}, { tk := [36] }] ⟨[tP 6 6, tI 7 (wr.i64 (vk + 1))], [(6, .cells (GTerm.q uds) [(3, .app 41)])], []⟩ (.cons (cspec_l03Atom h971) .nil) ?_
            obtain rfl := Option.some.inj h; exact Wc.ret dn
          · refine Wc.cF h970 ?_
            apply Wc.seq
            refine Wc.r0 ⟨[tV 0 (.sl (List.map GIns.c ux)), tI 1 (wr.i64 (vk + 1)), tI 2 v6, tP 6 6, tP 8 8, tI 31 um.gOp, tB 38 (um.gOp == 2)], [(6, .cells GTerm.z [(3, .app 41)]), bC 8 (GIns.q um)], []⟩ ?_
            rcases oif h with ⟨h972, h⟩ | ⟨h972, h⟩
            · refine Wc.cT h972 ?_
              apply Wc.seq
              obtain ⟨udt, h973, h⟩ := obind h
              refine Wc.r2 [{}, {}, { r := some (.v (.agg (GTerm.q udt)) [(3, .app 41)]) }, {}, { tk := [42] }] ⟨[tP 6 6, tI 7 (wr.i64 (vk + 1))], [(6, .cells (GTerm.q udt) [(3, .app 41)])], []⟩ (.cons (cspec_l03Num h973) .nil) ?_
              obtain rfl := Option.some.inj h; exact Wc.ret dn
            · refine Wc.cF h972 ?_
              refine Wc.seqJ (fun st => ∃ (ubi : Bool), st = ⟨[tV 0 (.sl (List.map GIns.c ux)), tI 1 (wr.i64 (vk + 1)), tI 2 v6, tP 6 6, tP 8 8, tI 31 um.gOp, tB 44 ubi], [(6, .cells GTerm.z [(3, .app 41)]), bC 8 (GIns.q um)], []⟩ ∧ pspec_l12Term_J1 k (pspec_l12Term k) um vk ux v6 ubi = some r) ?_ ?_
              · apply Wc.seq
                refine Wc.r0 ⟨[tV 0 (.sl (List.map GIns.c ux)), tI 1 (wr.i64 (vk + 1)), tI 2 v6, tP 6 6, tP 8 8, tI 31 um.gOp, tB 44 (um.gOp == 3)], [(6, .cells GTerm.z [(3, .app 41)]), bC 8 (GIns.q um)], []⟩ ?_
                rcases oif h with ⟨h983, h⟩ | ⟨h983, h⟩
                · refine Wc.cT h983 ?_
                  refine Wc.skip ?_
                  exact ⟨_, rfl, h⟩
                · refine Wc.cF h983 ?_
                  refine Wc.r0 ⟨[tV 0 (.sl (List.map GIns.c ux)), tI 1 (wr.i64 (vk + 1)), tI 2 v6, tP 6 6, tP 8 8, tI 31 um.gOp, tB 44 (um.gOp == 4)], [(6, .cells GTerm.z [(3, .app 41)]), bC 8 (GIns.q um)], []⟩ ?_
                  exact ⟨_, rfl, h⟩
              · rintro st ⟨ubi, rfl, h⟩
                rcases oif h with ⟨h974, h⟩ | ⟨h974, h⟩
                · refine Wc.cT h974 ?_
                  apply Wc.seq
                  obtain ⟨udq, h975, h⟩ := obind h
                  refine Wc.r2 [{}, {}, { r := some (.v (.agg (GTerm.q udq)) [(3, .app 41)]) }, {}, { tk := [49] }] ⟨[tP 6 6, tI 7 (wr.i64 (vk + 1))], [(6, .cells (GTerm.q udq) [(3, .app 41)])], []⟩ (.cons (cspec_l03Var h975) .nil) ?_
                  obtain rfl := Option.some.inj h; exact Wc.ret dn
                · refine Wc.cF h974 ?_
                  apply Wc.seq
                  refine Wc.r0 ⟨[tV 0 (.sl (List.map GIns.c ux)), tI 1 (wr.i64 (vk + 1)), tI 2 v6, tP 6 6, tP 8 8, tB 51 (um.gOp == 5)], [(6, .cells GTerm.z [(3, .app 41)]), bC 8 (GIns.q um)], []⟩ ?_
                  rcases oif h with ⟨h976, h⟩ | ⟨h976, h⟩
                  · refine Wc.cT h976 ?_
                    apply Wc.seq
                    refine Wc.r1 [{}, {}, {}, {}, { tk := [55] }] ⟨[tV 0 (.sl (List.map GIns.c ux)), tI 1 (wr.i64 (vk + 1)), tI 2 v6, tP 6 6, tP 8 8, tP 9 9], [(6, .cells GTerm.z [(3, .app 41)]), bC 8 (GIns.q um), (9, .cells [aI 4, .str um.gName, aI 0, .sl (List.map GTerm.c [])] [(3, .app 41)])], []⟩ ?_
                    apply Wc.seq
                    apply Wc.seq
                    refine Wc.r0 ⟨[tV 0 (.sl (List.map GIns.c ux)), tI 1 (wr.i64 (vk + 1)), tI 2 v6, tP 6 6, tP 8 8, tP 9 9, tI 10 0], [(6, .cells GTerm.z [(3, .app 41)]), bC 8 (GIns.q um), (9, .cells [aI 4, .str um.gName, aI 0, .sl (List.map GTerm.c [])] [(3, .app 41)])], []⟩ ?_
                    obtain ⟨out2, h977, h⟩ := obind h
                    refine Wc.lastJ (fun st => ∃ (u8m : Int) (u8n : GTerm), out2 = .done (u8m, u8n) ∧ st = ⟨[tI 1 u8m, tP 6 6, tP 9 9], [(6, .cells GTerm.z [(3, .app 41)]), (9, .cells (GTerm.q u8n) [(3, .app 41)])], []⟩) ?_ ?_
                    · refine Wc.block ?_
                      refine Wc.loop (fun m st => ∃ (u43 : Int) (u28 : Int) (vm : GTerm), st = ⟨[tV 0 (.sl (List.map GIns.c ux)), tI 1 u43, tI 2 v6, tP 6 6, tP 8 8, tP 9 9, tI 10 u28], [(6, .cells GTerm.z [(3, .app 41)]), bC 8 (GIns.q um), (9, .cells (GTerm.q vm) [(3, .app 41)])], []⟩ ∧ pspec_l12Term_L2 k (pspec_l12Term k) um ux v6 m u43 u28 vm = some out2) ?_ k ⟨_, _, _, rfl, h977⟩
                      rintro m st ⟨u43, u28, vm, rfl, h977⟩
                      cases m with
                      | zero => exact (onone h977).elim
                      | succ m =>
                        apply Wc.seq
                        apply Wc.seq
                        rcases oif h977 with ⟨h978, h977⟩ | ⟨h978, h977⟩
                        · refine Wc.r2 [{}, {}, {}, {}, { re := some (.bool true) }] ⟨[tV 0 (.sl (List.map GIns.c ux)), tI 1 u43, tI 2 v6, tP 6 6, tP 8 8, tP 9 9, tI 10 u28, tB 63 (decide (u28 < 6))], [(6, .cells GTerm.z [(3, .app 41)]), bC 8 (GIns.q um), (9, .cells (GTerm.q vm) [(3, .app 41)])], []⟩ (.cons (congrArg AV.bool h978) .nil) ?_
                          rcases oif h977 with ⟨h979, h977⟩ | ⟨h979, h977⟩
                          · refine Wc.cT h979 ?_
                            refine Wc.fx [] ⟨[tV 0 (.sl (List.map GIns.c ux)), tI 1 u43, tI 2 v6, tP 6 6, tP 8 8, tP 9 9, tI 10 u28], [(6, .cells GTerm.z [(3, .app 41)]), bC 8 (GIns.q um), (9, .cells (GTerm.q vm) [(3, .app 41)])], []⟩ ?_
                            refine Wc.skip ?_
                            apply Wc.seq
                            refine Wc.block ?_
                            apply Wc.seq
                            obtain ⟨zm, h980, h977⟩ := obind h977
                            refine Wc.r2 [{}, {}, {}, {}, { r := some (.v (.tup [.agg (GTerm.q zm.1), aI zm.2]) [(3, .app 41)]) }, { tk := [71] }, { tk := [66] }, {}, {}, { tk := [72] }] ⟨[tV 0 (.sl (List.map GIns.c ux)), tI 2 v6, tP 6 6, tP 8 8, tP 9 9, tI 10 u28, tP 11 11, tI 12 zm.2], [(6, .cells GTerm.z [(3, .app 41)]), bC 8 (GIns.q um), (9, .cells (GTerm.q vm) [(3, .app 41)]), (11, .cells (GTerm.q zm.1) [(3, .app 41)])], []⟩ (.cons (ih_pspec_l12Term h980) .nil) ?_
                            apply Wc.seq
                            apply Wc.seq
                            refine Wc.r0 ⟨[tV 0 (.sl (List.map GIns.c ux)), tI 2 v6, tP 6 6, tP 8 8, tP 9 9, tI 10 u28, tP 11 11, tI 12 zm.2, tB 75 (decide (zm.2 < 0))], [(6, .cells GTerm.z [(3, .app 41)]), bC 8 (GIns.q um), (9, .cells (GTerm.q vm) [(3, .app 41)]), (11, .cells (GTerm.q zm.1) [(3, .app 41)])], []⟩ ?_
                            rcases oif h977 with ⟨h981, h977⟩ | ⟨h981, h977⟩
                            · refine Wc.cT h981 ?_
                              apply Wc.seq
                              refine Wc.r1 [{}, { tk := [76] }] ⟨[tP 6 6, tI 7 (-1)], [(6, .cells GTerm.z [(3, .app 41)])], []⟩ ?_
                              refine Wc.ret ?_
                              obtain rfl := Option.some.inj h977
                              obtain rfl := Option.some.inj h
                              exact ⟨.inl rfl, by kernel_rfl, by kernel_rfl⟩
                            · refine Wc.cF h981 ?_
                              refine Wc.fx [] ⟨[tV 0 (.sl (List.map GIns.c ux)), tI 2 v6, tP 6 6, tP 8 8, tP 9 9, tI 10 u28, tP 11 11, tI 12 zm.2], [(6, .cells GTerm.z [(3, .app 41)]), bC 8 (GIns.q um), (9, .cells (GTerm.q vm) [(3, .app 41)]), (11, .cells (GTerm.q zm.1) [(3, .app 41)])], []⟩ ?_
                              refine Wc.skip ?_
                              apply Wc.seq
                              obtain ⟨h982, h977⟩ := oguard h977
                              refine Wc.r2 [{}, { md := 1 }, {}, { c := some (List.map GTerm.c [zm.1]) }, { c := some (List.map GTerm.c (vm.gKids ++ [zm.1])), tk := [78] }, {}, { tk := [81] }] ⟨[tV 0 (.sl (List.map GIns.c ux)), tI 2 v6, tP 6 6, tP 8 8, tP 9 9, tI 10 u28, tI 12 zm.2], [(6, .cells GTerm.z [(3, .app 41)]), bC 8 (GIns.q um), (9, .cells [aI vm.gKind, .str vm.gName, aI vm.gNum, .sl (List.map GTerm.c (vm.gKids ++ [zm.1]))] [(3, .app 41)])], []⟩ (.cons (cl_cons (c := GTerm.c) (x := zm.1) (GTerm.c_eq zm.1) (cl_nil GTerm.c)) (.cons (app_re2 GTerm.c vm.gKids [zm.1]) (.cons (app_leaf (c := GTerm.c) (ys := [zm.1]) GTerm.c_leaf) (.cons (app_obl2 (c := GTerm.c) (xs := vm.gKids) (ys := [zm.1]) GTerm.c_len h982) .nil)))) ?_
                              refine Wc.r0 ⟨[tV 0 (.sl (List.map GIns.c ux)), tI 1 zm.2, tI 2 v6, tP 6 6, tP 8 8, tP 9 9, tI 10 u28], [(6, .cells GTerm.z [(3, .app 41)]), bC 8 (GIns.q um), (9, .cells [aI vm.gKind, .str vm.gName, aI vm.gNum, .sl (List.map GTerm.c (vm.gKids ++ [zm.1]))] [(3, .app 41)])], []⟩ ?_
                              refine Wc.r0 ⟨[tV 0 (.sl (List.map GIns.c ux)), tI 1 zm.2, tI 2 v6, tP 6 6, tP 8 8, tP 9 9, tI 10 (wr.i64 (u28 + 1))], [(6, .cells GTerm.z [(3, .app 41)]), bC 8 (GIns.q um), (9, .cells [aI vm.gKind, .str vm.gName, aI vm.gNum, .sl (List.map GTerm.c (vm.gKids ++ [zm.1]))] [(3, .app 41)])], []⟩ ?_
                              exact ⟨_, Nat.lt_succ_self _, _, _, _, rfl, h977⟩
                          · refine Wc.cF h979 ?_
                            refine Wc.fx [] ⟨[tI 1 u43, tP 6 6, tP 9 9], [(6, .cells GTerm.z [(3, .app 41)]), (9, .cells (GTerm.q vm) [(3, .app 41)])], []⟩ ?_
                            refine Wc.exit ?_
                            obtain rfl := Option.some.inj h977
                            exact ⟨_, _, rfl, rfl⟩
                        · refine Wc.r2 [{}, {}, {}, {}, { re := some (.bool false) }] ⟨[tV 0 (.sl (List.map GIns.c ux)), tI 1 u43, tI 2 v6, tP 6 6, tP 8 8, tP 9 9, tI 10 u28, tB 63 false], [(6, .cells GTerm.z [(3, .app 41)]), bC 8 (GIns.q um), (9, .cells (GTerm.q vm) [(3, .app 41)])], []⟩ (.cons (congrArg AV.bool h978) .nil) ?_
                          refine Wc.cF rfl ?_
                          refine Wc.fx [] ⟨[tI 1 u43, tP 6 6, tP 9 9], [(6, .cells GTerm.z [(3, .app 41)]), (9, .cells (GTerm.q vm) [(3, .app 41)])], []⟩ ?_
                          refine Wc.exit ?_
                          obtain rfl := Option.some.inj h977
                          exact ⟨_, _, rfl, rfl⟩
                    · rintro st ⟨u8m, u8n, rfl, rfl⟩
                      apply Wc.seq
                      refine Wc.r1 [{ md := 1 }, {}, { tk := [84] }] ⟨[tP 6 6, tI 7 u8m], [(6, .cells (GTerm.q u8n) [(3, .app 41)])], []⟩ ?_
                      obtain rfl := Option.some.inj h; exact Wc.ret dn
                  · refine Wc.cF h976 ?_
                    refine Wc.fx [] ⟨[tP 6 6], [(6, .cells GTerm.z [(3, .app 41)])], []⟩ ?_
                    refine Wc.skip ?_
                    apply Wc.seq
                    refine Wc.r1 [{}, { tk := [86] }] ⟨[tP 6 6, tI 7 (-1)], [(6, .cells GTerm.z [(3, .app 41)])], []⟩ ?_
                    obtain rfl := Option.some.inj h; exact Wc.ret dn
theorem cspec_l12Term {k : Nat} {ux : List GIns} {vk : Int} {v6 : Int} {r : GTerm × Int} (h : pspec_l12Term k ux vk v6 = some r) : FnO Try.prog 106 [.v (.sl (List.map GIns.c ux)) [], .v (aI vk) [], .v (aI v6) []] (.v (.tup [.agg (GTerm.q r.1), aI r.2]) [(3, .app 41)]) [] := (all_pspec_l12Term k) h

def pspec_l12Form (k : Nat) (u0o : GIns) : Option Bool :=
  if (u0o.gOp == 1) = true then
    if (u0o.gNum == 0) = true then
      some (u0o.gMany == 0)
    else
      some false
  else
    if (u0o.gOp == 5) = true then
      some (u0o.gNum == 0)
    else
      if (sEq u0o.gName (bs [])) = true then
        some (u0o.gMany == 0)
      else
        some false
theorem cspec_l12Form {k : Nat} {u0o : GIns} {r : Bool} (h : pspec_l12Form k u0o = some r) : FnO Try.prog 107 [.v (.agg (GIns.q u0o)) []] (.v (.bool r) []) [] := by
  refine FnO.o2 Try.func107 (rfl : Try.f107.body = some _) ?_
  intro w0 X0 Fin pv0 pb
  unfold pspec_l12Form at h
  apply Wc.seq
  refine Wc.r0 ⟨[tP 1 1], [bC 1 (GIns.q u0o)], []⟩ ?_
  apply Wc.seq
  apply Wc.seq
  refine Wc.r0 ⟨[tP 1 1, tI 4 u0o.gOp], [bC 1 (GIns.q u0o)], []⟩ ?_
  refine Wc.block ?_
  apply Wc.seq
  refine Wc.r0 ⟨[tP 1 1, tI 4 u0o.gOp, tB 5 (u0o.gOp == 1)], [bC 1 (GIns.q u0o)], []⟩ ?_
  rcases oif h with ⟨h984, h⟩ | ⟨h984, h⟩
  · refine Wc.cT h984 ?_
    apply Wc.seq
    rcases oif h with ⟨h985, h⟩ | ⟨h985, h⟩
    · refine Wc.r2 [{}, {}, {}, { re := some (.bool true) }] ⟨[tB 2 (u0o.gMany == 0)], [], []⟩ (.cons (congrArg AV.bool h985) .nil) ?_
      obtain rfl := Option.some.inj h; exact Wc.ret dn
    · refine Wc.r2 [{}, {}, {}, { re := some (.bool false) }] ⟨[tB 2 false], [], []⟩ (.cons (congrArg AV.bool h985) .nil) ?_
      obtain rfl := Option.some.inj h; exact Wc.ret dn
  · refine Wc.cF h984 ?_
    apply Wc.seq
    refine Wc.r0 ⟨[tP 1 1, tB 15 (u0o.gOp == 5)], [bC 1 (GIns.q u0o)], []⟩ ?_
    rcases oif h with ⟨h986, h⟩ | ⟨h986, h⟩
    · refine Wc.cT h986 ?_
      apply Wc.seq
      refine Wc.r0 ⟨[tB 2 (u0o.gNum == 0)], [], []⟩ ?_
      obtain rfl := Option.some.inj h; exact Wc.ret dn
    · refine Wc.cF h986 ?_
      refine Wc.fx [] ⟨[tP 1 1], [bC 1 (GIns.q u0o)], []⟩ ?_
      refine Wc.skip ?_
      apply Wc.seq
      rcases oif h with ⟨h987, h⟩ | ⟨h987, h⟩
      · refine Wc.r2 [{}, {}, {}, { re := some (.bool true) }] ⟨[tB 2 (u0o.gMany == 0)], [], []⟩ (.cons (congrArg AV.bool h987) .nil) ?_
        obtain rfl := Option.some.inj h; exact Wc.ret dn
      · refine Wc.r2 [{}, {}, {}, { re := some (.bool false) }] ⟨[tB 2 false], [], []⟩ (.cons (congrArg AV.bool h987) .nil) ?_
        obtain rfl := Option.some.inj h; exact Wc.ret dn

def pspec_TermOf_L1 (k : Nat) (z3 : List GIns) : Nat → Int → Option (Out (GTerm × Bool) Unit)
  | 0, _ => none
  | m + 1, u3o =>
    if (decide (u3o < (z3.length : Int))) = true then
      (at' z3 u3o).bind fun ubj =>
      (pspec_l12Form k ubj).bind fun udu =>
      if (!udu) = true then
        some (.ret (GTerm.mk 0 (bs []) 0 [], false))
      else
        pspec_TermOf_L1 k z3 m (wr.i64 (u3o + 1))
    else
      some (.done ())
def pspec_TermOf (k : Nat) (z3 : List GIns) : Option (GTerm × Bool) :=
  (pspec_l12Term k z3 0 1).bind fun u10 =>
  if (u10.2 != (z3.length : Int)) = true then
    some (GTerm.mk 0 (bs []) 0 [], false)
  else
    (pspec_TermOk k u10.1).bind fun udv =>
    if (!udv) = true then
      some (GTerm.mk 0 (bs []) 0 [], false)
    else
      (pspec_TermOf_L1 k z3 k 0).bind fun out1 => match out1 with
      | .ret r => some r
      | .done () =>
        some (u10.1, true)
theorem cspec_TermOf {k : Nat} {z3 : List GIns} {r : GTerm × Bool} (h : pspec_TermOf k z3 = some r) : FnO Try.prog 43 [.v (.sl (List.map GIns.c z3)) []] (.v (.tup [.agg (GTerm.q r.1), .bool r.2]) [(3, .app 41)]) [] := by
  refine FnO.o2 Try.func43 (rfl : Try.f43.body = some _) ?_
  intro w0 X0 Fin pv0 pb
  unfold pspec_TermOf at h
  apply Wc.seq
  refine Wc.r0 ⟨[tV 0 (.sl (List.map GIns.c z3)), tP 2 2], [(2, .cells GTerm.z [(3, .app 41)])], []⟩ ?_
  apply Wc.seq
  obtain ⟨u10, h997, h⟩ := obind h
  refine Wc.r2 [{}, { r := some (.v (.tup [.agg (GTerm.q u10.1), aI u10.2]) [(3, .app 41)]) }, { tk := [9] }, { tk := [7] }, {}, {}, { tk := [10] }] ⟨[tV 0 (.sl (List.map GIns.c z3)), tP 2 2, tP 4 4, tI 5 u10.2], [(2, .cells GTerm.z [(3, .app 41)]), (4, .cells (GTerm.q u10.1) [(3, .app 41)])], []⟩ (.cons (cspec_l12Term h997) .nil) ?_
  apply Wc.seq
  apply Wc.seq
  rcases oif h with ⟨h998, h⟩ | ⟨h998, h⟩
  · refine Wc.r2 [{}, {}, { v := some (aI (z3.length : Int)) }, {}, { re := some (.bool true) }] ⟨[tV 0 (.sl (List.map GIns.c z3)), tP 2 2, tP 4 4, tB 20 true], [(2, .cells GTerm.z [(3, .app 41)]), (4, .cells (GTerm.q u10.1) [(3, .app 41)])], []⟩ (.cons (len_obl GIns.c z3) (.cons (congrArg AV.bool h998) .nil)) ?_
    refine Wc.cT rfl ?_
    apply Wc.seq
    refine Wc.r1 [{}, { tk := [21] }] ⟨[tP 2 2, tB 3 false], [(2, .cells GTerm.z [(3, .app 41)])], []⟩ ?_
    obtain rfl := Option.some.inj h; exact Wc.ret dn
  · obtain ⟨udv, h999, h⟩ := obind h
    refine Wc.r2 [{}, {}, { v := some (aI (z3.length : Int)) }, {}, { re := some (.bool false) }, {}, { r := some (.v (.bool udv) []) }] ⟨[tV 0 (.sl (List.map GIns.c z3)), tP 2 2, tP 4 4, tB 20 (!udv)], [(2, .cells GTerm.z [(3, .app 41)]), (4, .cells (GTerm.q u10.1) [(3, .app 41)])], []⟩ (.cons (len_obl GIns.c z3) (.cons (congrArg AV.bool h998) (.cons (cspec_TermOk h999) .nil))) ?_
    rcases oif h with ⟨h1000, h⟩ | ⟨h1000, h⟩
    · refine Wc.cT h1000 ?_
      apply Wc.seq
      refine Wc.r1 [{}, { tk := [21] }] ⟨[tP 2 2, tB 3 false], [(2, .cells GTerm.z [(3, .app 41)])], []⟩ ?_
      obtain rfl := Option.some.inj h; exact Wc.ret dn
    · refine Wc.cF h1000 ?_
      refine Wc.fx [] ⟨[tV 0 (.sl (List.map GIns.c z3)), tP 2 2, tP 4 4], [(2, .cells GTerm.z [(3, .app 41)]), (4, .cells (GTerm.q u10.1) [(3, .app 41)])], []⟩ ?_
      refine Wc.skip ?_
      apply Wc.seq
      apply Wc.seq
      refine Wc.r0 ⟨[tV 0 (.sl (List.map GIns.c z3)), tP 2 2, tP 4 4, tI 6 0], [(2, .cells GTerm.z [(3, .app 41)]), (4, .cells (GTerm.q u10.1) [(3, .app 41)])], []⟩ ?_
      obtain ⟨out1, h1001, h⟩ := obind h
      refine Wc.lastJ (fun st => out1 = .done () ∧ st = ⟨[tP 2 2, tP 4 4], [(2, .cells GTerm.z [(3, .app 41)]), (4, .cells (GTerm.q u10.1) [(3, .app 41)])], []⟩) ?_ ?_
      · refine Wc.block ?_
        refine Wc.loop (fun m st => ∃ (u3o : Int), st = ⟨[tV 0 (.sl (List.map GIns.c z3)), tP 2 2, tP 4 4, tI 6 u3o], [(2, .cells GTerm.z [(3, .app 41)]), (4, .cells (GTerm.q u10.1) [(3, .app 41)])], []⟩ ∧ pspec_TermOf_L1 k z3 m u3o = some out1) ?_ k ⟨_, rfl, h1001⟩
        rintro m st ⟨u3o, rfl, h1001⟩
        cases m with
        | zero => exact (onone h1001).elim
        | succ m =>
          apply Wc.seq
          apply Wc.seq
          refine Wc.r2 [{}, {}, { v := some (aI (z3.length : Int)) }] ⟨[tV 0 (.sl (List.map GIns.c z3)), tP 2 2, tP 4 4, tI 6 u3o, tB 25 (decide (u3o < (z3.length : Int)))], [(2, .cells GTerm.z [(3, .app 41)]), (4, .cells (GTerm.q u10.1) [(3, .app 41)])], []⟩ (.cons (len_obl GIns.c z3) .nil) ?_
          rcases oif h1001 with ⟨h1002, h1001⟩ | ⟨h1002, h1001⟩
          · refine Wc.cT h1002 ?_
            refine Wc.fx [] ⟨[tV 0 (.sl (List.map GIns.c z3)), tP 2 2, tP 4 4, tI 6 u3o], [(2, .cells GTerm.z [(3, .app 41)]), (4, .cells (GTerm.q u10.1) [(3, .app 41)])], []⟩ ?_
            refine Wc.skip ?_
            apply Wc.seq
            refine Wc.block ?_
            apply Wc.seq
            obtain ⟨ubj, h1003, h1001⟩ := obind h1001
            obtain ⟨udu, h1004, h1001⟩ := obind h1001
            refine Wc.r2 [{}, {}, { v := some (.vptr (GIns.q ubj)) }, {}, { r := some (.v (.bool udu) []) }] ⟨[tV 0 (.sl (List.map GIns.c z3)), tP 2 2, tP 4 4, tI 6 u3o, tB 33 (!udu)], [(2, .cells GTerm.z [(3, .app 41)]), (4, .cells (GTerm.q u10.1) [(3, .app 41)])], []⟩ (.cons (at_obl (c := GIns.c) (GIns.c_eq ubj) GIns.c_len h1003) (.cons (len_ok 4 (GIns.q ubj)) (.cons (cspec_l12Form h1004) .nil))) ?_
            rcases oif h1001 with ⟨h1005, h1001⟩ | ⟨h1005, h1001⟩
            · refine Wc.cT h1005 ?_
              apply Wc.seq
              refine Wc.r1 [{}, { tk := [34] }] ⟨[tP 2 2, tB 3 false], [(2, .cells GTerm.z [(3, .app 41)])], []⟩ ?_
              refine Wc.ret ?_
              obtain rfl := Option.some.inj h1001
              obtain rfl := Option.some.inj h
              exact ⟨.inl rfl, by kernel_rfl, by kernel_rfl⟩
            · refine Wc.cF h1005 ?_
              refine Wc.fx [] ⟨[tV 0 (.sl (List.map GIns.c z3)), tP 2 2, tP 4 4, tI 6 u3o], [(2, .cells GTerm.z [(3, .app 41)]), (4, .cells (GTerm.q u10.1) [(3, .app 41)])], []⟩ ?_
              refine Wc.skip ?_
              refine Wc.r0 ⟨[tV 0 (.sl (List.map GIns.c z3)), tP 2 2, tP 4 4, tI 6 (wr.i64 (u3o + 1))], [(2, .cells GTerm.z [(3, .app 41)]), (4, .cells (GTerm.q u10.1) [(3, .app 41)])], []⟩ ?_
              exact ⟨_, Nat.lt_succ_self _, _, rfl, h1001⟩
          · refine Wc.cF h1002 ?_
            refine Wc.fx [] ⟨[tP 2 2, tP 4 4], [(2, .cells GTerm.z [(3, .app 41)]), (4, .cells (GTerm.q u10.1) [(3, .app 41)])], []⟩ ?_
            refine Wc.exit ?_
            obtain rfl := Option.some.inj h1001
            exact ⟨rfl, rfl⟩
      · rintro st ⟨rfl, rfl⟩
        apply Wc.seq
        refine Wc.r1 [{ md := 1 }, { tk := [35] }] ⟨[tP 2 2, tB 3 true], [(2, .cells (GTerm.q u10.1) [(3, .app 41)])], []⟩ ?_
        obtain rfl := Option.some.inj h; exact Wc.ret dn

def pspec_DrawWordsOf_L1 (k : Nat) : Nat → (List Int) → Int → GL01Cur → Option (Out (GTerm × (List Int)) ((List Int) × GL01Cur))
  | 0, _, _, _ => none
  | m + 1, u2w, u4l, ubk =>
    (pspec_l01Below k ubk 3).bind fun u4x =>
    if (decide (u4l < u4x.2)) = true then
      (pspec_l01Below k u4x.1 3).bind fun u2l =>
      if u2w.length + [u2l.2].length ≤ 1073741824 then
        pspec_DrawWordsOf_L1 k m (u2w ++ [u2l.2]) (wr.i64 (u4l + 1)) u2l.1
      else none
    else
      some (.done (u2w, u4x.1))
def pspec_DrawWordsOf (k : Nat) (ubl : List Int) : Option (GTerm × (List Int)) :=
  (pspec_l01New k ubl).bind fun u8o =>
  (pspec_DrawWordsOf_L1 k k [] 0 u8o).bind fun out1 => match out1 with
  | .ret r => some r
  | .done (u8p, ubm) =>
    (pspec_l03Any k ubm).bind fun ubn =>
    some (ubn.2, u8p)
theorem cspec_DrawWordsOf {k : Nat} {ubl : List Int} {r : GTerm × (List Int)} (h : pspec_DrawWordsOf k ubl = some r) : FnO Try.prog 44 [.v (.sl (List.map cI.u8 ubl)) []] (.v (.tup [.agg (GTerm.q r.1), .sl (List.map cI.i64 r.2)]) [(3, .app 41), (4, .app 3)]) [] := by
  refine FnO.o2 Try.func44 (rfl : Try.f44.body = some _) ?_
  intro w0 X0 Fin pv0 pb
  unfold pspec_DrawWordsOf at h
  apply Wc.seq
  refine Wc.r0 ⟨[tV 0 (.sl (List.map cI.u8 ubl)), tP 2 2], [(2, .cells GTerm.z [(3, .app 41)])], []⟩ ?_
  apply Wc.seq
  obtain ⟨u8o, h1013, h⟩ := obind h
  refine Wc.r2 [{}, { r := some (.p (GL01Cur.q u8o) []) }] ⟨[tP 2 2, tP 4 8], [(2, .cells GTerm.z [(3, .app 41)]), bC 8 (GL01Cur.q u8o)], []⟩ (.cons (cspec_l01New h1013) .nil) ?_
  apply Wc.seq
  refine Wc.r2 [{ c := some (List.map cI.i64 []) }, { tk := [9] }] ⟨[tP 2 2, tP 4 8, (5, (.v (.sl (List.map cI.i64 [])), [(0, .app 3)]))], [(2, .cells GTerm.z [(3, .app 41)]), bC 8 (GL01Cur.q u8o)], []⟩ (.cons (cl_nil cI.i64) .nil) ?_
  apply Wc.seq
  apply Wc.seq
  refine Wc.r0 ⟨[tP 2 2, tP 4 8, (5, (.v (.sl (List.map cI.i64 [])), [(0, .app 3)])), tI 6 0], [(2, .cells GTerm.z [(3, .app 41)]), bC 8 (GL01Cur.q u8o)], []⟩ ?_
  obtain ⟨out1, h1014, h⟩ := obind h
  refine Wc.lastJ (fun st => ∃ (u8p : List Int) (ubm : GL01Cur), out1 = .done (u8p, ubm) ∧ st = ⟨[tP 2 2, tP 4 8, (5, (.v (.sl (List.map cI.i64 u8p)), [(0, .app 3)]))], [(2, .cells GTerm.z [(3, .app 41)]), bC 8 (GL01Cur.q ubm)], []⟩) ?_ ?_
  · refine Wc.block ?_
    refine Wc.loop (fun m st => ∃ (u2w : List Int) (u4l : Int) (ubk : GL01Cur), st = ⟨[tP 2 2, tP 4 8, (5, (.v (.sl (List.map cI.i64 u2w)), [(0, .app 3)])), tI 6 u4l], [(2, .cells GTerm.z [(3, .app 41)]), bC 8 (GL01Cur.q ubk)], []⟩ ∧ pspec_DrawWordsOf_L1 k m u2w u4l ubk = some out1) ?_ k ⟨_, _, _, rfl, h1014⟩
    rintro m st ⟨u2w, u4l, ubk, rfl, h1014⟩
    cases m with
    | zero => exact (onone h1014).elim
    | succ m =>
      apply Wc.seq
      apply Wc.seq
      obtain ⟨u4x, h1015, h1014⟩ := obind h1014
      refine Wc.r2 [{}, {}, { r := some (.v (aI u4x.2) []), outs := [(0, .p (GL01Cur.q u4x.1) [])] }] ⟨[tP 2 2, tP 4 8, (5, (.v (.sl (List.map cI.i64 u2w)), [(0, .app 3)])), tI 6 u4l, tB 13 (decide (u4l < u4x.2))], [(2, .cells GTerm.z [(3, .app 41)]), bC 8 (GL01Cur.q u4x.1)], []⟩ (.cons (cspec_l01Below h1015) .nil) ?_
      rcases oif h1014 with ⟨h1016, h1014⟩ | ⟨h1016, h1014⟩
      · refine Wc.cT h1016 ?_
        refine Wc.fx [] ⟨[tP 2 2, tP 4 8, (5, (.v (.sl (List.map cI.i64 u2w)), [(0, .app 3)])), tI 6 u4l], [(2, .cells GTerm.z [(3, .app 41)]), bC 8 (GL01Cur.q u4x.1)], []⟩ ?_
        refine Wc.skip ?_
        apply Wc.seq
        refine Wc.block ?_
        obtain ⟨u2l, h1017, h1014⟩ := obind h1014
        obtain ⟨h1018, h1014⟩ := oguard h1014
        refine Wc.r2 [{ tk := [5] }, {}, { r := some (.v (aI u2l.2) []), outs := [(0, .p (GL01Cur.q u2l.1) [])] }, { c := some (List.map cI.i64 [u2l.2]) }, { c := some (List.map cI.i64 (u2w ++ [u2l.2])), tk := [16] }, { tk := [20] }] ⟨[tP 2 2, tP 4 8, (5, (.v (.sl (List.map cI.i64 (u2w ++ [u2l.2]))), [(0, .app 3)])), tI 6 u4l], [(2, .cells GTerm.z [(3, .app 41)]), bC 8 (GL01Cur.q u2l.1)], []⟩ (.cons (cspec_l01Below h1017) (.cons (cl_cons (c := cI.i64) (x := u2l.2) rfl (cl_nil cI.i64)) (.cons (app_re2 cI.i64 u2w [u2l.2]) (.cons (app_leaf (c := cI.i64) (ys := [u2l.2]) cI.i64_leaf) (.cons (app_obl2 (c := cI.i64) (xs := u2w) (ys := [u2l.2]) cI.i64_len h1018) .nil))))) ?_
        refine Wc.r0 ⟨[tP 2 2, tP 4 8, (5, (.v (.sl (List.map cI.i64 (u2w ++ [u2l.2]))), [(0, .app 3)])), tI 6 (wr.i64 (u4l + 1))], [(2, .cells GTerm.z [(3, .app 41)]), bC 8 (GL01Cur.q u2l.1)], []⟩ ?_
        exact ⟨_, Nat.lt_succ_self _, _, _, _, rfl, h1014⟩
      · refine Wc.cF h1016 ?_
        refine Wc.fx [] ⟨[tP 2 2, tP 4 8, (5, (.v (.sl (List.map cI.i64 u2w)), [(0, .app 3)]))], [(2, .cells GTerm.z [(3, .app 41)]), bC 8 (GL01Cur.q u4x.1)], []⟩ ?_
        refine Wc.exit ?_
        obtain rfl := Option.some.inj h1014
        exact ⟨_, _, rfl, rfl⟩
  · rintro st ⟨u8p, ubm, rfl, rfl⟩
    apply Wc.seq
    obtain ⟨ubn, h1019, h⟩ := obind h
    refine Wc.r2 [{}, { r := some (.v (.agg (GTerm.q ubn.2)) [(3, .app 41)]), outs := [(0, .p (GL01Cur.q ubn.1) [])] }, { tk := [5] }, { tk := [22] }, { tk := [23] }] ⟨[tP 2 2, (3, (.v (.sl (List.map cI.i64 u8p)), [(0, .app 3)]))], [(2, .cells (GTerm.q ubn.2) [(3, .app 41)])], []⟩ (.cons (cspec_l03Any h1019) .nil) ?_
    obtain rfl := Option.some.inj h; exact Wc.ret dn

def plaws_sameInts_L1 (k : Nat) (zv : List Int) (u0p : List Int) : Nat → Int → Option (Out Bool Unit)
  | 0, _ => none
  | m + 1, u3b =>
    if (decide (u3b < (zv.length : Int))) = true then
      (at' zv u3b).bind fun ubo =>
      (at' u0p u3b).bind fun ubp =>
      if (ubo != ubp) = true then
        some (.ret false)
      else
        plaws_sameInts_L1 k zv u0p m (wr.i64 (u3b + 1))
    else
      some (.done ())
def plaws_sameInts (k : Nat) (zv : List Int) (u0p : List Int) : Option Bool :=
  if ((zv.length : Int) != (u0p.length : Int)) = true then
    some false
  else
    (plaws_sameInts_L1 k zv u0p k 0).bind fun out1 => match out1 with
    | .ret r => some r
    | .done () =>
      some true
theorem claws_sameInts {k : Nat} {zv : List Int} {u0p : List Int} {r : Bool} (h : plaws_sameInts k zv u0p = some r) : FnO Try.prog 46 [.v (.sl (List.map cI.i64 zv)) [], .v (.sl (List.map cI.i64 u0p)) []] (.v (.bool r) []) [] := by
  refine FnO.o2 Try.func46 (rfl : Try.f46.body = some _) ?_
  intro w0 X0 Fin pv0 pb
  unfold plaws_sameInts at h
  apply Wc.seq
  refine Wc.r0 ⟨[tV 0 (.sl (List.map cI.i64 zv)), tV 1 (.sl (List.map cI.i64 u0p))], [], []⟩ ?_
  apply Wc.seq
  apply Wc.seq
  refine Wc.r2 [{}, { v := some (aI (zv.length : Int)) }, {}, { v := some (aI (u0p.length : Int)) }] ⟨[tV 0 (.sl (List.map cI.i64 zv)), tV 1 (.sl (List.map cI.i64 u0p)), tB 10 ((zv.length : Int) != (u0p.length : Int))], [], []⟩ (.cons (len_obl cI.i64 zv) (.cons (len_obl cI.i64 u0p) .nil)) ?_
  rcases oif h with ⟨h1020, h⟩ | ⟨h1020, h⟩
  · refine Wc.cT h1020 ?_
    apply Wc.seq
    refine Wc.r0 ⟨[tB 4 false], [], []⟩ ?_
    obtain rfl := Option.some.inj h; exact Wc.ret dn
  · refine Wc.cF h1020 ?_
    refine Wc.fx [] ⟨[tV 0 (.sl (List.map cI.i64 zv)), tV 1 (.sl (List.map cI.i64 u0p))], [], []⟩ ?_
    refine Wc.skip ?_
    apply Wc.seq
    apply Wc.seq
    refine Wc.r0 ⟨[tV 0 (.sl (List.map cI.i64 zv)), tV 1 (.sl (List.map cI.i64 u0p)), tI 5 0], [], []⟩ ?_
    obtain ⟨out1, h1021, h⟩ := obind h
    refine Wc.lastJ (fun st => out1 = .done () ∧ st = ⟨[], [], []⟩) ?_ ?_
    · refine Wc.block ?_
      refine Wc.loop (fun m st => ∃ (u3b : Int), st = ⟨[tV 0 (.sl (List.map cI.i64 zv)), tV 1 (.sl (List.map cI.i64 u0p)), tI 5 u3b], [], []⟩ ∧ plaws_sameInts_L1 k zv u0p m u3b = some out1) ?_ k ⟨_, rfl, h1021⟩
      rintro m st ⟨u3b, rfl, h1021⟩
      cases m with
      | zero => exact (onone h1021).elim
      | succ m =>
        apply Wc.seq
        apply Wc.seq
        refine Wc.r2 [{}, {}, { v := some (aI (zv.length : Int)) }] ⟨[tV 0 (.sl (List.map cI.i64 zv)), tV 1 (.sl (List.map cI.i64 u0p)), tI 5 u3b, tB 14 (decide (u3b < (zv.length : Int)))], [], []⟩ (.cons (len_obl cI.i64 zv) .nil) ?_
        rcases oif h1021 with ⟨h1022, h1021⟩ | ⟨h1022, h1021⟩
        · refine Wc.cT h1022 ?_
          refine Wc.fx [] ⟨[tV 0 (.sl (List.map cI.i64 zv)), tV 1 (.sl (List.map cI.i64 u0p)), tI 5 u3b], [], []⟩ ?_
          refine Wc.skip ?_
          apply Wc.seq
          refine Wc.block ?_
          apply Wc.seq
          obtain ⟨ubo, h1023, h1021⟩ := obind h1021
          obtain ⟨ubp, h1024, h1021⟩ := obind h1021
          refine Wc.draw hmix [{}, {}, { v := some (.vptr [aI ubo]) }, {}, {}, {}, { v := some (.vptr [aI ubp]) }] [] [0, 1, 5, 25] [] [] ⟨[tV 0 (.sl (List.map cI.i64 zv)), tV 1 (.sl (List.map cI.i64 u0p)), tI 5 u3b, tB 25 (ubo != ubp)], [], []⟩ _ (by kernel_rfl) (fun X => by kernel_rfl) (.cons (at_obl (c := cI.i64) rfl cI.i64_len h1023) (.cons (len_ok 1 [aI ubo]) (.cons (at_obl (c := cI.i64) rfl cI.i64_len h1024) (.cons (len_ok 1 [aI ubp]) .nil)))) ?_
          rcases oif h1021 with ⟨h1025, h1021⟩ | ⟨h1025, h1021⟩
          · refine Wc.cT h1025 ?_
            apply Wc.seq
            refine Wc.r0 ⟨[tB 4 false], [], []⟩ ?_
            refine Wc.ret ?_
            obtain rfl := Option.some.inj h1021
            obtain rfl := Option.some.inj h
            exact ⟨.inl rfl, by kernel_rfl, by kernel_rfl⟩
          · refine Wc.cF h1025 ?_
            refine Wc.fx [] ⟨[tV 0 (.sl (List.map cI.i64 zv)), tV 1 (.sl (List.map cI.i64 u0p)), tI 5 u3b], [], []⟩ ?_
            refine Wc.skip ?_
            refine Wc.r0 ⟨[tV 0 (.sl (List.map cI.i64 zv)), tV 1 (.sl (List.map cI.i64 u0p)), tI 5 (wr.i64 (u3b + 1))], [], []⟩ ?_
            exact ⟨_, Nat.lt_succ_self _, _, rfl, h1021⟩
        · refine Wc.cF h1022 ?_
          refine Wc.fx [] ⟨[], [], []⟩ ?_
          refine Wc.exit ?_
          obtain rfl := Option.some.inj h1021
          exact ⟨rfl, rfl⟩
    · rintro st ⟨rfl, rfl⟩
      apply Wc.seq
      refine Wc.r0 ⟨[tB 4 true], [], []⟩ ?_
      obtain rfl := Option.some.inj h; exact Wc.ret dn

def plaws_sameWords_L1 (k : Nat) (zw : List GIns) (u0q : List GIns) : Nat → Int → Option (Out Bool Unit)
  | 0, _ => none
  | m + 1, u3c =>
    if (decide (u3c < (zw.length : Int))) = true then
      (at' zw u3c).bind fun u44 =>
      (at' u0q u3c).bind fun u45 =>
      if (!((u44.gOp == u45.gOp) && (sEq u44.gName u45.gName && ((u44.gNum == u45.gNum) && ((u44.gMany == u45.gMany) && true))))) = true then
        some (.ret false)
      else
        plaws_sameWords_L1 k zw u0q m (wr.i64 (u3c + 1))
    else
      some (.done ())
def plaws_sameWords (k : Nat) (zw : List GIns) (u0q : List GIns) : Option Bool :=
  if ((zw.length : Int) != (u0q.length : Int)) = true then
    some false
  else
    (plaws_sameWords_L1 k zw u0q k 0).bind fun out1 => match out1 with
    | .ret r => some r
    | .done () =>
      some true
theorem claws_sameWords {k : Nat} {zw : List GIns} {u0q : List GIns} {r : Bool} (h : plaws_sameWords k zw u0q = some r) : FnO Try.prog 48 [.v (.sl (List.map GIns.c zw)) [], .v (.sl (List.map GIns.c u0q)) []] (.v (.bool r) []) [] := by
  refine FnO.o2 Try.func48 (rfl : Try.f48.body = some _) ?_
  intro w0 X0 Fin pv0 pb
  unfold plaws_sameWords at h
  apply Wc.seq
  refine Wc.r0 ⟨[tV 0 (.sl (List.map GIns.c zw)), tV 1 (.sl (List.map GIns.c u0q))], [], []⟩ ?_
  apply Wc.seq
  apply Wc.seq
  refine Wc.r2 [{}, { v := some (aI (zw.length : Int)) }, {}, { v := some (aI (u0q.length : Int)) }] ⟨[tV 0 (.sl (List.map GIns.c zw)), tV 1 (.sl (List.map GIns.c u0q)), tB 10 ((zw.length : Int) != (u0q.length : Int))], [], []⟩ (.cons (len_obl GIns.c zw) (.cons (len_obl GIns.c u0q) .nil)) ?_
  rcases oif h with ⟨h1026, h⟩ | ⟨h1026, h⟩
  · refine Wc.cT h1026 ?_
    apply Wc.seq
    refine Wc.r0 ⟨[tB 4 false], [], []⟩ ?_
    obtain rfl := Option.some.inj h; exact Wc.ret dn
  · refine Wc.cF h1026 ?_
    refine Wc.fx [] ⟨[tV 0 (.sl (List.map GIns.c zw)), tV 1 (.sl (List.map GIns.c u0q))], [], []⟩ ?_
    refine Wc.skip ?_
    apply Wc.seq
    apply Wc.seq
    refine Wc.r0 ⟨[tV 0 (.sl (List.map GIns.c zw)), tV 1 (.sl (List.map GIns.c u0q)), tI 5 0], [], []⟩ ?_
    obtain ⟨out1, h1027, h⟩ := obind h
    refine Wc.lastJ (fun st => out1 = .done () ∧ st = ⟨[], [], []⟩) ?_ ?_
    · refine Wc.block ?_
      refine Wc.loop (fun m st => ∃ (u3c : Int), st = ⟨[tV 0 (.sl (List.map GIns.c zw)), tV 1 (.sl (List.map GIns.c u0q)), tI 5 u3c], [], []⟩ ∧ plaws_sameWords_L1 k zw u0q m u3c = some out1) ?_ k ⟨_, rfl, h1027⟩
      rintro m st ⟨u3c, rfl, h1027⟩
      cases m with
      | zero => exact (onone h1027).elim
      | succ m =>
        apply Wc.seq
        apply Wc.seq
        refine Wc.r2 [{}, {}, { v := some (aI (zw.length : Int)) }] ⟨[tV 0 (.sl (List.map GIns.c zw)), tV 1 (.sl (List.map GIns.c u0q)), tI 5 u3c, tB 14 (decide (u3c < (zw.length : Int)))], [], []⟩ (.cons (len_obl GIns.c zw) .nil) ?_
        rcases oif h1027 with ⟨h1028, h1027⟩ | ⟨h1028, h1027⟩
        · refine Wc.cT h1028 ?_
          refine Wc.fx [] ⟨[tV 0 (.sl (List.map GIns.c zw)), tV 1 (.sl (List.map GIns.c u0q)), tI 5 u3c], [], []⟩ ?_
          refine Wc.skip ?_
          apply Wc.seq
          refine Wc.block ?_
          apply Wc.seq
          obtain ⟨u44, h1029, h1027⟩ := obind h1027
          obtain ⟨u45, h1030, h1027⟩ := obind h1027
          refine Wc.draw hmix [{}, {}, { v := some (.vptr (GIns.q u44)) }, {}, {}, {}, { v := some (.vptr (GIns.q u45)) }] [] [0, 1, 5, 25] [] [] ⟨[tV 0 (.sl (List.map GIns.c zw)), tV 1 (.sl (List.map GIns.c u0q)), tI 5 u3c, tB 25 (!((u44.gOp == u45.gOp) && (sEq u44.gName u45.gName && ((u44.gNum == u45.gNum) && ((u44.gMany == u45.gMany) && true)))))], [], []⟩ _ (by kernel_rfl) (fun X => by kernel_rfl) (.cons (at_obl (c := GIns.c) (GIns.c_eq u44) GIns.c_len h1029) (.cons (len_ok 4 (GIns.q u44)) (.cons (at_obl (c := GIns.c) (GIns.c_eq u45) GIns.c_len h1030) (.cons (len_ok 4 (GIns.q u45)) .nil)))) ?_
          rcases oif h1027 with ⟨h1031, h1027⟩ | ⟨h1031, h1027⟩
          · refine Wc.cT h1031 ?_
            apply Wc.seq
            refine Wc.r0 ⟨[tB 4 false], [], []⟩ ?_
            refine Wc.ret ?_
            obtain rfl := Option.some.inj h1027
            obtain rfl := Option.some.inj h
            exact ⟨.inl rfl, by kernel_rfl, by kernel_rfl⟩
          · refine Wc.cF h1031 ?_
            refine Wc.fx [] ⟨[tV 0 (.sl (List.map GIns.c zw)), tV 1 (.sl (List.map GIns.c u0q)), tI 5 u3c], [], []⟩ ?_
            refine Wc.skip ?_
            refine Wc.r0 ⟨[tV 0 (.sl (List.map GIns.c zw)), tV 1 (.sl (List.map GIns.c u0q)), tI 5 (wr.i64 (u3c + 1))], [], []⟩ ?_
            exact ⟨_, Nat.lt_succ_self _, _, rfl, h1027⟩
        · refine Wc.cF h1028 ?_
          refine Wc.fx [] ⟨[], [], []⟩ ?_
          refine Wc.exit ?_
          obtain rfl := Option.some.inj h1027
          exact ⟨rfl, rfl⟩
    · rintro st ⟨rfl, rfl⟩
      apply Wc.seq
      refine Wc.r0 ⟨[tB 4 true], [], []⟩ ?_
      obtain rfl := Option.some.inj h; exact Wc.ret dn

def pimpl_wordsOf_d_L1 (k : Nat) (rimpl_wordsOf_d : GTerm → (List Int) → Option ((List GIns) × (List Int))) (ub : GTerm) : Nat → (List Int) → (List GIns) → Int → Option (Out ((List GIns) × (List Int)) ((List Int) × (List GIns)))
  | 0, _, _, _ => none
  | m + 1, u4m, u1u, u2x =>
    if (decide (u2x < (ub.gKids.length : Int))) = true then
      (at' ub.gKids u2x).bind fun u6w =>
      (rimpl_wordsOf_d u6w u4m).bind fun u2y =>
      if u1u.length + u2y.1.length ≤ 1073741824 then
        pimpl_wordsOf_d_L1 k rimpl_wordsOf_d ub m u2y.2 (u1u ++ u2y.1) (wr.i64 (u2x + 1))
      else none
    else
      some (.done (u4m, u1u))
mutual
def pimpl_wordsOf_d : Nat → GTerm → (List Int) → Option ((List GIns) × (List Int))
  | 0, _, _ => none
  | k + 1, ub, vw =>
    if (ub.gKind == 2) = true then
      some ([GIns.mk 1 ub.gName 0 0], vw)
    else
      if (ub.gKind == 3) = true then
        some ([GIns.mk 2 (bs []) ub.gNum 0], vw)
      else
        if (ub.gKind == 1) = true then
          (pslices_Contains___int_int_ k vw ub.gNum).bind fun u4y =>
          if u4y = true then
            some ([GIns.mk 4 (bs []) ub.gNum 0], vw)
          else
            if vw.length + [ub.gNum].length ≤ 1073741824 then
              some ([GIns.mk 3 (bs []) ub.gNum 0], vw ++ [ub.gNum])
            else none
        else
          (pimpl_wordsOf_d_L1 k (pimpl_wordsOf_d k) ub k vw [GIns.mk 5 ub.gName 0 (ub.gKids.length : Int)] 0).bind fun out1 => match out1 with
          | .ret r => some r
          | .done (u8q, u8r) =>
            some (u8r, u8q)
end
set_option maxHeartbeats 4000000 in
theorem all_pimpl_wordsOf_d : ∀ k : Nat, (∀ {ub : GTerm} {vw : List Int} {r : (List GIns) × (List Int)}, pimpl_wordsOf_d k ub vw = some r → FnO Try.prog 98 [.v (.agg (GTerm.q ub)) [], .v (.slx) [(0, .ex 3 true (List.map cI.i64 vw))]] (.v (.tup [.slx, .slx]) [(0, .ex 128 true (List.map GIns.c r.1)), (1, .ex 3 true (List.map cI.i64 r.2))]) []) := by
  intro k
  induction k with
  | zero =>
    · intro ub vw r h
      exact (onone (by rw [pimpl_wordsOf_d] at h; exact h)).elim
  | succ k ih =>
    have ih_pimpl_wordsOf_d := @ih
    · intro ub vw r h
      rw [pimpl_wordsOf_d] at h
      refine FnO.o2 Try.func98 (rfl : Try.f98.body = some _) ?_
      intro w0 X0 Fin pv0 pb
      apply Wc.seq
      refine Wc.r0 ⟨[(1, (.v (.slx), [(0, .ex 3 true (List.map cI.i64 vw))])), tP 2 2], [bC 2 (GTerm.q ub)], []⟩ ?_
      apply Wc.seq
      apply Wc.seq
      refine Wc.r0 ⟨[(1, (.v (.slx), [(0, .ex 3 true (List.map cI.i64 vw))])), tP 2 2, tI 11 ub.gKind], [bC 2 (GTerm.q ub)], []⟩ ?_
      refine Wc.block ?_
      apply Wc.seq
      refine Wc.r0 ⟨[(1, (.v (.slx), [(0, .ex 3 true (List.map cI.i64 vw))])), tP 2 2, tI 11 ub.gKind, tB 12 (ub.gKind == 2)], [bC 2 (GTerm.q ub)], []⟩ ?_
      rcases oif h with ⟨h1051, h⟩ | ⟨h1051, h⟩
      · refine Wc.cT h1051 ?_
        apply Wc.seq
        refine Wc.r2 [{}, {}, {}, { c := some (List.map GIns.c [GIns.mk 1 ub.gName 0 0]), md := 2 }, { tk := [1] }, { tk := [17] }, { tk := [18] }] ⟨[(4, (.v (.slx), [(0, .ex 128 true (List.map GIns.c [GIns.mk 1 ub.gName 0 0]))])), (5, (.v (.slx), [(0, .ex 3 true (List.map cI.i64 vw))]))], [], []⟩ (.cons (cl_cons (c := GIns.c) (x := GIns.mk 1 ub.gName 0 0) (GIns.c_eq (GIns.mk 1 ub.gName 0 0)) (cl_nil GIns.c)) .nil) ?_
        obtain rfl := Option.some.inj h; exact Wc.ret dn
      · refine Wc.cF h1051 ?_
        apply Wc.seq
        refine Wc.r0 ⟨[(1, (.v (.slx), [(0, .ex 3 true (List.map cI.i64 vw))])), tP 2 2, tI 11 ub.gKind, tB 19 (ub.gKind == 3)], [bC 2 (GTerm.q ub)], []⟩ ?_
        rcases oif h with ⟨h1052, h⟩ | ⟨h1052, h⟩
        · refine Wc.cT h1052 ?_
          apply Wc.seq
          refine Wc.r2 [{}, {}, {}, { c := some (List.map GIns.c [GIns.mk 2 (bs []) ub.gNum 0]), md := 2 }, { tk := [1] }, { tk := [24] }, { tk := [25] }] ⟨[(4, (.v (.slx), [(0, .ex 128 true (List.map GIns.c [GIns.mk 2 (bs []) ub.gNum 0]))])), (5, (.v (.slx), [(0, .ex 3 true (List.map cI.i64 vw))]))], [], []⟩ (.cons (cl_cons (c := GIns.c) (x := GIns.mk 2 (bs []) ub.gNum 0) (GIns.c_eq (GIns.mk 2 (bs []) ub.gNum 0)) (cl_nil GIns.c)) .nil) ?_
          obtain rfl := Option.some.inj h; exact Wc.ret dn
        · refine Wc.cF h1052 ?_
          apply Wc.seq
          refine Wc.r0 ⟨[(1, (.v (.slx), [(0, .ex 3 true (List.map cI.i64 vw))])), tP 2 2, tB 26 (ub.gKind == 1)], [bC 2 (GTerm.q ub)], []⟩ ?_
          rcases oif h with ⟨h1053, h⟩ | ⟨h1053, h⟩
          · refine Wc.cT h1053 ?_
            apply Wc.seq
            apply Wc.seq
            obtain ⟨u4y, h1054, h⟩ := obind h
            refine Wc.r2 [{}, {}, {}, { r := some (.v (.bool u4y) []) }] ⟨[(1, (.v (.slx), [(0, .ex 3 true (List.map cI.i64 vw))])), tP 2 2, tB 31 u4y], [bC 2 (GTerm.q ub)], []⟩ (.cons (cslices_Contains___int_int_ h1054) .nil) ?_
            rcases oif h with ⟨h1055, h⟩ | ⟨h1055, h⟩
            · refine Wc.cT h1055 ?_
              apply Wc.seq
              refine Wc.r2 [{}, {}, {}, { c := some (List.map GIns.c [GIns.mk 4 (bs []) ub.gNum 0]), md := 2 }, { tk := [1] }, { tk := [35] }, { tk := [36] }] ⟨[(4, (.v (.slx), [(0, .ex 128 true (List.map GIns.c [GIns.mk 4 (bs []) ub.gNum 0]))])), (5, (.v (.slx), [(0, .ex 3 true (List.map cI.i64 vw))]))], [], []⟩ (.cons (cl_cons (c := GIns.c) (x := GIns.mk 4 (bs []) ub.gNum 0) (GIns.c_eq (GIns.mk 4 (bs []) ub.gNum 0)) (cl_nil GIns.c)) .nil) ?_
              obtain rfl := Option.some.inj h; exact Wc.ret dn
            · refine Wc.cF h1055 ?_
              refine Wc.fx [] ⟨[(1, (.v (.slx), [(0, .ex 3 true (List.map cI.i64 vw))])), tP 2 2], [bC 2 (GTerm.q ub)], []⟩ ?_
              refine Wc.skip ?_
              apply Wc.seq
              obtain ⟨h1056, h⟩ := oguard h
              refine Wc.draw hmix [{}, {}, {}, { c := some (List.map GIns.c [GIns.mk 3 (bs []) ub.gNum 0]), md := 2 }, { tk := [1] }, {}, {}, { c := some (List.map cI.i64 [ub.gNum]) }, { c := some (List.map cI.i64 (vw ++ [ub.gNum])), tk := [41], md := 2 }, { tk := [40] }, { tk := [45] }] [] [4, 5] [] [] ⟨[(4, (.v (.slx), [(0, .ex 128 true (List.map GIns.c [GIns.mk 3 (bs []) ub.gNum 0]))])), (5, (.v (.slx), [(0, .ex 3 true (List.map cI.i64 (vw ++ [ub.gNum])))]))], [], []⟩ _ (by kernel_rfl) (fun X => by kernel_rfl) (.cons (cl_cons (c := GIns.c) (x := GIns.mk 3 (bs []) ub.gNum 0) (GIns.c_eq (GIns.mk 3 (bs []) ub.gNum 0)) (cl_nil GIns.c)) (.cons (cl_cons (c := cI.i64) (x := ub.gNum) rfl (cl_nil cI.i64)) (.cons (app_re2 cI.i64 vw [ub.gNum]) (.cons (app_scal (c := cI.i64) (ys := [ub.gNum]) cI.i64_scal) (.cons (app_obl2 (c := cI.i64) (xs := vw) (ys := [ub.gNum]) cI.i64_len h1056) .nil))))) ?_
              obtain rfl := Option.some.inj h; exact Wc.ret dn
          · refine Wc.cF h1053 ?_
            refine Wc.fx [] ⟨[(1, (.v (.slx), [(0, .ex 3 true (List.map cI.i64 vw))])), tP 2 2], [bC 2 (GTerm.q ub)], []⟩ ?_
            refine Wc.skip ?_
            apply Wc.seq
            refine Wc.r2 [{}, {}, {}, {}, { v := some (aI (ub.gKids.length : Int)) }, {}, { c := some (List.map GIns.c [GIns.mk 5 ub.gName 0 (ub.gKids.length : Int)]), md := 2 }, { tk := [52] }] ⟨[(1, (.v (.slx), [(0, .ex 3 true (List.map cI.i64 vw))])), tP 2 2, (6, (.v (.slx), [(0, .ex 128 true (List.map GIns.c [GIns.mk 5 ub.gName 0 (ub.gKids.length : Int)]))]))], [bC 2 (GTerm.q ub)], []⟩ (.cons (len_obl GTerm.c ub.gKids) (.cons (cl_cons (c := GIns.c) (x := GIns.mk 5 ub.gName 0 (ub.gKids.length : Int)) (GIns.c_eq (GIns.mk 5 ub.gName 0 (ub.gKids.length : Int))) (cl_nil GIns.c)) .nil)) ?_
            apply Wc.seq
            apply Wc.seq
            refine Wc.r2 [{}, {}, { v := some (aI (ub.gKids.length : Int)) }] ⟨[(1, (.v (.slx), [(0, .ex 3 true (List.map cI.i64 vw))])), (6, (.v (.slx), [(0, .ex 128 true (List.map GIns.c [GIns.mk 5 ub.gName 0 (ub.gKids.length : Int)]))])), tV 54 (.sl (List.map GTerm.c ub.gKids)), tI 55 (ub.gKids.length : Int), tI 56 0], [], []⟩ (.cons (len_obl GTerm.c ub.gKids) .nil) ?_
            obtain ⟨out1, h1057, h⟩ := obind h
            refine Wc.lastJ (fun st => ∃ (u8q : List Int) (u8r : List GIns), out1 = .done (u8q, u8r) ∧ st = ⟨[(1, (.v (.slx), [(0, .ex 3 true (List.map cI.i64 u8q))])), (6, (.v (.slx), [(0, .ex 128 true (List.map GIns.c u8r))]))], [], []⟩) ?_ ?_
            · refine Wc.block ?_
              refine Wc.loop (fun m st => ∃ (u4m : List Int) (u1u : List GIns) (u2x : Int), st = ⟨[(1, (.v (.slx), [(0, .ex 3 true (List.map cI.i64 u4m))])), (6, (.v (.slx), [(0, .ex 128 true (List.map GIns.c u1u))])), tV 54 (.sl (List.map GTerm.c ub.gKids)), tI 55 (ub.gKids.length : Int), tI 56 u2x], [], []⟩ ∧ pimpl_wordsOf_d_L1 k (pimpl_wordsOf_d k) ub m u4m u1u u2x = some out1) ?_ k ⟨_, _, _, rfl, h1057⟩
              rintro m st ⟨u4m, u1u, u2x, rfl, h1057⟩
              cases m with
              | zero => exact (onone h1057).elim
              | succ m =>
                apply Wc.seq
                refine Wc.r0 ⟨[(1, (.v (.slx), [(0, .ex 3 true (List.map cI.i64 u4m))])), (6, (.v (.slx), [(0, .ex 128 true (List.map GIns.c u1u))])), tV 54 (.sl (List.map GTerm.c ub.gKids)), tI 55 (ub.gKids.length : Int), tI 56 u2x, tB 57 (decide (u2x < (ub.gKids.length : Int)))], [], []⟩ ?_
                apply Wc.seq
                rcases oif h1057 with ⟨h1058, h1057⟩ | ⟨h1058, h1057⟩
                · refine Wc.cT h1058 ?_
                  refine Wc.fx [] ⟨[(1, (.v (.slx), [(0, .ex 3 true (List.map cI.i64 u4m))])), (6, (.v (.slx), [(0, .ex 128 true (List.map GIns.c u1u))])), tV 54 (.sl (List.map GTerm.c ub.gKids)), tI 55 (ub.gKids.length : Int), tI 56 u2x], [], []⟩ ?_
                  refine Wc.skip ?_
                  apply Wc.seq
                  refine Wc.block ?_
                  apply Wc.seq
                  obtain ⟨u6w, h1059, h1057⟩ := obind h1057
                  refine Wc.r2 [{ v := some (.vptr (GTerm.q u6w)) }] ⟨[(1, (.v (.slx), [(0, .ex 3 true (List.map cI.i64 u4m))])), (6, (.v (.slx), [(0, .ex 128 true (List.map GIns.c u1u))])), tP 8 8, tV 54 (.sl (List.map GTerm.c ub.gKids)), tI 55 (ub.gKids.length : Int), tI 56 u2x], [bC 8 (GTerm.q u6w)], []⟩ (.cons (at_obl (c := GTerm.c) (GTerm.c_eq u6w) GTerm.c_len h1059) (.cons (len_ok 4 (GTerm.q u6w)) .nil)) ?_
                  apply Wc.seq
                  refine Wc.r0 ⟨[(1, (.v (.slx), [(0, .ex 3 true (List.map cI.i64 u4m))])), (6, (.v (.slx), [(0, .ex 128 true (List.map GIns.c u1u))])), tP 8 8, tV 54 (.sl (List.map GTerm.c ub.gKids)), tI 55 (ub.gKids.length : Int), tI 56 u2x], [bC 8 (GTerm.q u6w)], []⟩ ?_
                  apply Wc.seq
                  obtain ⟨u2y, h1060, h1057⟩ := obind h1057
                  refine Wc.r2 [{}, { tk := [1] }, { tk := [62], r := some (.v (.tup [.slx, .slx]) [(0, .ex 128 true (List.map GIns.c u2y.1)), (1, .ex 3 true (List.map cI.i64 u2y.2))]) }, { tk := [63] }, { tk := [60] }, { tk := [60] }, { tk := [64] }, { tk := [65] }] ⟨[(1, (.v (.slx), [(0, .ex 3 true (List.map cI.i64 u2y.2))])), (6, (.v (.slx), [(0, .ex 128 true (List.map GIns.c u1u))])), (9, (.v (.slx), [(0, .ex 128 true (List.map GIns.c u2y.1))])), tV 54 (.sl (List.map GTerm.c ub.gKids)), tI 55 (ub.gKids.length : Int), tI 56 u2x], [], []⟩ (.cons (ih_pimpl_wordsOf_d h1060) .nil) ?_
                  obtain ⟨h1061, h1057⟩ := oguard h1057
                  refine Wc.r2 [{ tk := [6] }, { tk := [9] }, { c := some (List.map GIns.c (u1u ++ u2y.1)), tk := [66, 67], md := 2 }, { tk := [68] }] ⟨[(1, (.v (.slx), [(0, .ex 3 true (List.map cI.i64 u2y.2))])), (6, (.v (.slx), [(0, .ex 128 true (List.map GIns.c (u1u ++ u2y.1)))])), tV 54 (.sl (List.map GTerm.c ub.gKids)), tI 55 (ub.gKids.length : Int), tI 56 u2x], [], []⟩ (.cons (app_re2 GIns.c u1u u2y.1) (.cons (app_obl2 (c := GIns.c) (xs := u1u) (ys := u2y.1) GIns.c_len h1061) .nil)) ?_
                  refine Wc.r0 ⟨[(1, (.v (.slx), [(0, .ex 3 true (List.map cI.i64 u2y.2))])), (6, (.v (.slx), [(0, .ex 128 true (List.map GIns.c (u1u ++ u2y.1)))])), tV 54 (.sl (List.map GTerm.c ub.gKids)), tI 55 (ub.gKids.length : Int), tI 56 (wr.i64 (u2x + 1))], [], []⟩ ?_
                  exact ⟨_, Nat.lt_succ_self _, _, _, _, rfl, h1057⟩
                · refine Wc.cF h1058 ?_
                  refine Wc.fx [] ⟨[(1, (.v (.slx), [(0, .ex 3 true (List.map cI.i64 u4m))])), (6, (.v (.slx), [(0, .ex 128 true (List.map GIns.c u1u))]))], [], []⟩ ?_
                  refine Wc.exit ?_
                  obtain rfl := Option.some.inj h1057
                  exact ⟨_, _, rfl, rfl⟩
            · rintro st ⟨u8q, u8r, rfl, rfl⟩
              apply Wc.seq
              refine Wc.r1 [{ tk := [6] }, { tk := [1] }, { tk := [70] }, { tk := [71] }] ⟨[(4, (.v (.slx), [(0, .ex 128 true (List.map GIns.c u8r))])), (5, (.v (.slx), [(0, .ex 3 true (List.map cI.i64 u8q))]))], [], []⟩ ?_
              obtain rfl := Option.some.inj h; exact Wc.ret dn
theorem cimpl_wordsOf_d {k : Nat} {ub : GTerm} {vw : List Int} {r : (List GIns) × (List Int)} (h : pimpl_wordsOf_d k ub vw = some r) : FnO Try.prog 98 [.v (.agg (GTerm.q ub)) [], .v (.slx) [(0, .ex 3 true (List.map cI.i64 vw))]] (.v (.tup [.slx, .slx]) [(0, .ex 128 true (List.map GIns.c r.1)), (1, .ex 3 true (List.map cI.i64 r.2))]) [] := (all_pimpl_wordsOf_d k) h

def pimpl_atom_d (k : Nat) (u6x : ByteArray) : Option GTerm :=
  some (GTerm.mk 2 u6x 0 [])
theorem cimpl_atom_d {k : Nat} {u6x : ByteArray} {r : GTerm} (h : pimpl_atom_d k u6x = some r) : FnO Try.prog 71 [.v (.str u6x) []] (.v (.agg (GTerm.qx r)) (GTerm.h3_41t r)) [] := by
  refine FnO.o2 Try.func71 (rfl : Try.f71.body = some _) ?_
  intro w0 X0 Fin pv0 pb
  unfold pimpl_atom_d at h
  apply Wc.seq
  refine Wc.r0 ⟨[tS 0 u6x, tP 2 2], [(2, .cells GTerm.z [(3, .app 41)])], []⟩ ?_
  apply Wc.seq
  refine Wc.r1 [{}, {}, { tk := [4] }] ⟨[tP 2 2], [(2, .cells [aI 2, .str u6x, aI 0, .sl (List.map GTerm.c [])] [(3, .app 41)])], []⟩ ?_
  refine Wc.fx [.ow (.b 2 3) true] ⟨[tP 2 2], [(2, .cells [aI 2, .str u6x, aI 0, .slx] [(3, .ex 41 true (List.map GTerm.c []))])], []⟩ ?_
  obtain rfl := Option.some.inj h; exact Wc.ret dn

def pimpl_number_d (k : Nat) (u6y : Int) : Option GTerm :=
  some (GTerm.mk 3 (bs []) u6y [])
theorem cimpl_number_d {k : Nat} {u6y : Int} {r : GTerm} (h : pimpl_number_d k u6y = some r) : FnO Try.prog 147 [.v (aI u6y) []] (.v (.agg (GTerm.qx r)) (GTerm.h3_41t r)) [] := by
  refine FnO.o2 Try.func147 (rfl : Try.f147.body = some _) ?_
  intro w0 X0 Fin pv0 pb
  unfold pimpl_number_d at h
  apply Wc.seq
  refine Wc.r0 ⟨[tI 0 u6y, tP 2 2], [(2, .cells GTerm.z [(3, .app 41)])], []⟩ ?_
  apply Wc.seq
  refine Wc.r1 [{}, {}, { tk := [4] }] ⟨[tP 2 2], [(2, .cells [aI 3, .str (bs []), aI u6y, .sl (List.map GTerm.c [])] [(3, .app 41)])], []⟩ ?_
  refine Wc.fx [.ow (.b 2 3) true] ⟨[tP 2 2], [(2, .cells [aI 3, .str (bs []), aI u6y, .slx] [(3, .ex 41 true (List.map GTerm.c []))])], []⟩ ?_
  obtain rfl := Option.some.inj h; exact Wc.ret dn

def pimpl_variable_d (k : Nat) (u6z : Int) : Option GTerm :=
  some (GTerm.mk 1 (bs []) u6z [])
theorem cimpl_variable_d {k : Nat} {u6z : Int} {r : GTerm} (h : pimpl_variable_d k u6z = some r) : FnO Try.prog 148 [.v (aI u6z) []] (.v (.agg (GTerm.qx r)) (GTerm.h3_41t r)) [] := by
  refine FnO.o2 Try.func148 (rfl : Try.f148.body = some _) ?_
  intro w0 X0 Fin pv0 pb
  unfold pimpl_variable_d at h
  apply Wc.seq
  refine Wc.r0 ⟨[tI 0 u6z, tP 2 2], [(2, .cells GTerm.z [(3, .app 41)])], []⟩ ?_
  apply Wc.seq
  refine Wc.r1 [{}, {}, { tk := [4] }] ⟨[tP 2 2], [(2, .cells [aI 1, .str (bs []), aI u6z, .sl (List.map GTerm.c [])] [(3, .app 41)])], []⟩ ?_
  refine Wc.fx [.ow (.b 2 3) true] ⟨[tP 2 2], [(2, .cells [aI 1, .str (bs []), aI u6z, .slx] [(3, .ex 41 true (List.map GTerm.c []))])], []⟩ ?_
  obtain rfl := Option.some.inj h; exact Wc.ret dn

def pimpl_structure_d (k : Nat) (u8s : ByteArray) (u8t : List GTerm) : Option GTerm :=
  some (GTerm.mk 4 u8s 0 u8t)
theorem cimpl_structure_d {k : Nat} {u8s : ByteArray} {u8t : List GTerm} {r : GTerm} (h : pimpl_structure_d k u8s u8t = some r) : FnO Try.prog 92 [.v (.str u8s) [], .v (.slx) [(0, .ex 41 true (List.map GTerm.c u8t))]] (.v (.agg (GTerm.qx r)) (GTerm.h3_41t r)) [] := by
  refine FnO.o2 Try.func92 (rfl : Try.f92.body = some _) ?_
  intro w0 X0 Fin pv0 pb
  unfold pimpl_structure_d at h
  apply Wc.seq
  refine Wc.r0 ⟨[tS 0 u8s, (1, (.v (.slx), [(0, .ex 41 true (List.map GTerm.c u8t))])), tP 4 4], [(4, .cells GTerm.z [(3, .app 41)])], []⟩ ?_
  apply Wc.seq
  refine Wc.r1 [{}, { tk := [1] }, { tk := [6] }, { tk := [7] }] ⟨[tP 4 4], [(4, .cells [aI 4, .str u8s, aI 0, .slx] [(3, .ex 41 true (List.map GTerm.c u8t))])], []⟩ ?_
  obtain rfl := Option.some.inj h; exact Wc.ret dn

def pimpl_termFrom_d_L4 (k : Nat) (rimpl_termFrom_d : (List GIns) → Int → Int → Option (GTerm × Int × Bool)) (uc : GIns) (uk : List GIns) (ur : Int) : Nat → Int → Int → GTerm → Option (Out (GTerm × Int × Bool) (Int × GTerm))
  | 0, _, _, _ => none
  | m + 1, u3d, u2z, vx =>
    if (decide (u2z < uc.gMany)) = true then
      (rimpl_termFrom_d uk u3d (wr.i64 (ur + 1))).bind fun vy =>
      if (!vy.2.2) = true then
        some (.ret (GTerm.mk 0 (bs []) 0 [], u3d, false))
      else
        if vx.gKids.length + [vy.1].length ≤ 1073741824 then
          pimpl_termFrom_d_L4 k rimpl_termFrom_d uc uk ur m vy.2.1 (wr.i64 (u2z + 1)) (GTerm.mk vx.gKind vx.gName vx.gNum (vx.gKids ++ [vy.1]))
        else none
    else
      some (.done (u3d, vx))
def pimpl_termFrom_d_J3 (k : Nat) (rimpl_termFrom_d : (List GIns) → Int → Int → Option (GTerm × Int × Bool)) (us : Int) (uc : GIns) (uk : List GIns) (ur : Int) (ubq : Bool) : Option (GTerm × Int × Bool) :=
  if ubq = true then
    some (GTerm.mk 0 (bs []) 0 [], wr.i64 (us + 1), false)
  else
    (pimpl_structure_d k uc.gName []).bind fun u68 =>
    (pimpl_termFrom_d_L4 k rimpl_termFrom_d uc uk ur k (wr.i64 (us + 1)) 0 u68).bind fun out4 => match out4 with
    | .ret r => some r
    | .done (u8u, u69) =>
      some (u69, u8u, true)
def pimpl_termFrom_d_J2 (k : Nat) (rimpl_termFrom_d : (List GIns) → Int → Int → Option (GTerm × Int × Bool)) (uc : GIns) (us : Int) (uk : List GIns) (ur : Int) (ubr : Bool) : Option (GTerm × Int × Bool) :=
  if ubr = true then
    (pimpl_variable_d k uc.gNum).bind fun u8v =>
    some (u8v, wr.i64 (us + 1), true)
  else
    if (!((uc.gOp == 5) && (sEq uc.gName uc.gName && ((uc.gNum == 0) && ((uc.gMany == uc.gMany) && true))))) = true then
      pimpl_termFrom_d_J3 k rimpl_termFrom_d us uc uk ur true
    else
      (pimpl_within k uc.gMany 1 5).bind fun udw =>
      pimpl_termFrom_d_J3 k rimpl_termFrom_d us uc uk ur (!udw)
def pimpl_termFrom_d_J1 (k : Nat) (rimpl_termFrom_d : (List GIns) → Int → Int → Option (GTerm × Int × Bool)) (us : Int) (uk : List GIns) (ur : Int) (u4z : Bool) : Option (GTerm × Int × Bool) :=
  if u4z = true then
    some (GTerm.mk 0 (bs []) 0 [], us, false)
  else
    (at' uk us).bind fun uc =>
    if ((uc.gOp == 1) && (sEq uc.gName uc.gName && ((uc.gNum == 0) && ((uc.gMany == 0) && true)))) = true then
      (pimpl_atom_d k uc.gName).bind fun u8w =>
      some (u8w, wr.i64 (us + 1), true)
    else
      if ((uc.gOp == 2) && (sEq uc.gName (bs []) && ((uc.gNum == uc.gNum) && ((uc.gMany == 0) && true)))) = true then
        (pimpl_number_d k uc.gNum).bind fun u8x =>
        some (u8x, wr.i64 (us + 1), true)
      else
        if ((uc.gOp == 3) && (sEq uc.gName (bs []) && ((uc.gNum == uc.gNum) && ((uc.gMany == 0) && true)))) = true then
          pimpl_termFrom_d_J2 k rimpl_termFrom_d uc us uk ur ((uc.gOp == 3) && (sEq uc.gName (bs []) && ((uc.gNum == uc.gNum) && ((uc.gMany == 0) && true))))
        else
          pimpl_termFrom_d_J2 k rimpl_termFrom_d uc us uk ur ((uc.gOp == 4) && (sEq uc.gName (bs []) && ((uc.gNum == uc.gNum) && ((uc.gMany == 0) && true))))
mutual
def pimpl_termFrom_d : Nat → (List GIns) → Int → Int → Option (GTerm × Int × Bool)
  | 0, _, _, _ => none
  | k + 1, uk, us, ur =>
    if (decide (us ≥ (uk.length : Int))) = true then
      pimpl_termFrom_d_J1 k (pimpl_termFrom_d k) us uk ur true
    else
      pimpl_termFrom_d_J1 k (pimpl_termFrom_d k) us uk ur (decide (ur > 40))
end
set_option maxHeartbeats 4000000 in
theorem all_pimpl_termFrom_d : ∀ k : Nat, (∀ {uk : List GIns} {us : Int} {ur : Int} {r : GTerm × Int × Bool}, pimpl_termFrom_d k uk us ur = some r → FnO Try.prog 99 [.v (.sl (List.map GIns.c uk)) [], .v (aI us) [], .v (aI ur) []] (.v (.tup [.agg (GTerm.qx r.1), aI r.2.1, .bool r.2.2]) (GTerm.h3_41t r.1)) []) := by
  intro k
  induction k with
  | zero =>
    · intro uk us ur r h
      exact (onone (by rw [pimpl_termFrom_d] at h; exact h)).elim
  | succ k ih =>
    have ih_pimpl_termFrom_d := @ih
    · intro uk us ur r h
      rw [pimpl_termFrom_d] at h
      refine FnO.o2 Try.func99 (rfl : Try.f99.body = some _) ?_
      intro w0 X0 Fin pv0 pb
      apply Wc.seq
      refine Wc.r0 ⟨[tV 0 (.sl (List.map GIns.c uk)), tI 1 us, tI 2 ur, tP 6 6], [(6, .cells GTerm.z [(3, .app 41)])], []⟩ ?_
      apply Wc.seq
      refine Wc.seqJ (fun st => ∃ (u4z : Bool), st = ⟨[tV 0 (.sl (List.map GIns.c uk)), tI 1 us, tI 2 ur, tP 6 6, tB 22 u4z], [(6, .cells [aI 0, .str (bs []), aI 0, .slx] [(3, .ex 41 true (List.map GTerm.c []))])], []⟩ ∧ pimpl_termFrom_d_J1 k (pimpl_termFrom_d k) us uk ur u4z = some r) ?_ ?_
      · rcases oif h with ⟨h1069, h⟩ | ⟨h1069, h⟩
        · refine Wc.r3 [{}, {}, { v := some (aI (uk.length : Int)) }, {}, { re := some (.bool true) }] [.ow (.b 6 3) true] ⟨[tV 0 (.sl (List.map GIns.c uk)), tI 1 us, tI 2 ur, tP 6 6, tB 22 true], [(6, .cells [aI 0, .str (bs []), aI 0, .slx] [(3, .ex 41 true (List.map GTerm.c []))])], []⟩ (.cons (len_obl GIns.c uk) (.cons (congrArg AV.bool h1069) .nil)) ?_
          exact ⟨_, rfl, h⟩
        · refine Wc.r3 [{}, {}, { v := some (aI (uk.length : Int)) }, {}, { re := some (.bool false) }] [.ow (.b 6 3) true] ⟨[tV 0 (.sl (List.map GIns.c uk)), tI 1 us, tI 2 ur, tP 6 6, tB 22 (decide (ur > 40))], [(6, .cells [aI 0, .str (bs []), aI 0, .slx] [(3, .ex 41 true (List.map GTerm.c []))])], []⟩ (.cons (len_obl GIns.c uk) (.cons (congrArg AV.bool h1069) .nil)) ?_
          exact ⟨_, rfl, h⟩
      · rintro st ⟨u4z, rfl, h⟩
        rcases oif h with ⟨h1051, h⟩ | ⟨h1051, h⟩
        · refine Wc.cT h1051 ?_
          apply Wc.seq
          refine Wc.r1 [{}, {}, { tk := [23] }] ⟨[tP 6 6, tI 7 us, tB 8 false], [(6, .cells GTerm.z [(3, .app 41)])], []⟩ ?_
          refine Wc.fx [.ow (.b 6 3) true] ⟨[tP 6 6, tI 7 us, tB 8 false], [(6, .cells [aI 0, .str (bs []), aI 0, .slx] [(3, .ex 41 true (List.map GTerm.c []))])], []⟩ ?_
          obtain rfl := Option.some.inj h; exact Wc.ret dn
        · refine Wc.cF h1051 ?_
          refine Wc.fx [] ⟨[tV 0 (.sl (List.map GIns.c uk)), tI 1 us, tI 2 ur, tP 6 6], [(6, .cells [aI 0, .str (bs []), aI 0, .slx] [(3, .ex 41 true (List.map GTerm.c []))])], []⟩ ?_
          refine Wc.skip ?_
          apply Wc.seq
          obtain ⟨uc, h1052, h⟩ := obind h
          refine Wc.r2 [{}, {}, { v := some (.vptr (GIns.q uc)) }] ⟨[tV 0 (.sl (List.map GIns.c uk)), tI 1 us, tI 2 ur, tP 6 6, tP 9 9], [(6, .cells [aI 0, .str (bs []), aI 0, .slx] [(3, .ex 41 true (List.map GTerm.c []))]), bC 9 (GIns.q uc)], []⟩ (.cons (at_obl (c := GIns.c) (GIns.c_eq uc) GIns.c_len h1052) (.cons (len_ok 4 (GIns.q uc)) .nil)) ?_
          apply Wc.seq
          refine Wc.r0 ⟨[tV 0 (.sl (List.map GIns.c uk)), tI 1 (wr.i64 (us + 1)), tI 2 ur, tP 6 6, tP 9 9], [(6, .cells [aI 0, .str (bs []), aI 0, .slx] [(3, .ex 41 true (List.map GTerm.c []))]), bC 9 (GIns.q uc)], []⟩ ?_
          apply Wc.seq
          refine Wc.block ?_
          apply Wc.seq
          refine Wc.r0 ⟨[tV 0 (.sl (List.map GIns.c uk)), tI 1 (wr.i64 (us + 1)), tI 2 ur, tP 6 6, tP 9 9, tB 31 ((uc.gOp == 1) && (sEq uc.gName uc.gName && ((uc.gNum == 0) && ((uc.gMany == 0) && true))))], [(6, .cells [aI 0, .str (bs []), aI 0, .slx] [(3, .ex 41 true (List.map GTerm.c []))]), bC 9 (GIns.q uc)], []⟩ ?_
          rcases oif h with ⟨h1053, h⟩ | ⟨h1053, h⟩
          · refine Wc.cT h1053 ?_
            apply Wc.seq
            obtain ⟨u8w, h1054, h⟩ := obind h
            refine Wc.r2 [{}, {}, { r := some (.v (.agg (GTerm.qx u8w)) (GTerm.h3_41t u8w)) }, {}, { tk := [39] }] ⟨[tP 6 6, tI 7 (wr.i64 (us + 1)), tB 8 true], [(6, .cells (GTerm.qx u8w) (GTerm.h3_41t u8w))], []⟩ (.cons (cimpl_atom_d h1054) .nil) ?_
            obtain rfl := Option.some.inj h; exact Wc.ret dn
          · refine Wc.cF h1053 ?_
            apply Wc.seq
            refine Wc.r0 ⟨[tV 0 (.sl (List.map GIns.c uk)), tI 1 (wr.i64 (us + 1)), tI 2 ur, tP 6 6, tP 9 9, tB 41 ((uc.gOp == 2) && (sEq uc.gName (bs []) && ((uc.gNum == uc.gNum) && ((uc.gMany == 0) && true))))], [(6, .cells [aI 0, .str (bs []), aI 0, .slx] [(3, .ex 41 true (List.map GTerm.c []))]), bC 9 (GIns.q uc)], []⟩ ?_
            rcases oif h with ⟨h1055, h⟩ | ⟨h1055, h⟩
            · refine Wc.cT h1055 ?_
              apply Wc.seq
              obtain ⟨u8x, h1056, h⟩ := obind h
              refine Wc.r2 [{}, {}, { r := some (.v (.agg (GTerm.qx u8x)) (GTerm.h3_41t u8x)) }, {}, { tk := [49] }] ⟨[tP 6 6, tI 7 (wr.i64 (us + 1)), tB 8 true], [(6, .cells (GTerm.qx u8x) (GTerm.h3_41t u8x))], []⟩ (.cons (cimpl_number_d h1056) .nil) ?_
              obtain rfl := Option.some.inj h; exact Wc.ret dn
            · refine Wc.cF h1055 ?_
              refine Wc.seqJ (fun st => ∃ (ubr : Bool), st = ⟨[tV 0 (.sl (List.map GIns.c uk)), tI 1 (wr.i64 (us + 1)), tI 2 ur, tP 6 6, tP 9 9, tB 51 ubr], [(6, .cells [aI 0, .str (bs []), aI 0, .slx] [(3, .ex 41 true (List.map GTerm.c []))]), bC 9 (GIns.q uc)], []⟩ ∧ pimpl_termFrom_d_J2 k (pimpl_termFrom_d k) uc us uk ur ubr = some r) ?_ ?_
              · apply Wc.seq
                refine Wc.r0 ⟨[tV 0 (.sl (List.map GIns.c uk)), tI 1 (wr.i64 (us + 1)), tI 2 ur, tP 6 6, tP 9 9, tB 51 ((uc.gOp == 3) && (sEq uc.gName (bs []) && ((uc.gNum == uc.gNum) && ((uc.gMany == 0) && true))))], [(6, .cells [aI 0, .str (bs []), aI 0, .slx] [(3, .ex 41 true (List.map GTerm.c []))]), bC 9 (GIns.q uc)], []⟩ ?_
                rcases oif h with ⟨h1068, h⟩ | ⟨h1068, h⟩
                · refine Wc.cT h1068 ?_
                  refine Wc.skip ?_
                  exact ⟨_, rfl, h⟩
                · refine Wc.cF h1068 ?_
                  refine Wc.r0 ⟨[tV 0 (.sl (List.map GIns.c uk)), tI 1 (wr.i64 (us + 1)), tI 2 ur, tP 6 6, tP 9 9, tB 51 ((uc.gOp == 4) && (sEq uc.gName (bs []) && ((uc.gNum == uc.gNum) && ((uc.gMany == 0) && true))))], [(6, .cells [aI 0, .str (bs []), aI 0, .slx] [(3, .ex 41 true (List.map GTerm.c []))]), bC 9 (GIns.q uc)], []⟩ ?_
                  exact ⟨_, rfl, h⟩
              · rintro st ⟨ubr, rfl, h⟩
                rcases oif h with ⟨h1057, h⟩ | ⟨h1057, h⟩
                · refine Wc.cT h1057 ?_
                  apply Wc.seq
                  obtain ⟨u8v, h1058, h⟩ := obind h
                  refine Wc.r2 [{}, {}, { r := some (.v (.agg (GTerm.qx u8v)) (GTerm.h3_41t u8v)) }, {}, { tk := [64] }] ⟨[tP 6 6, tI 7 (wr.i64 (us + 1)), tB 8 true], [(6, .cells (GTerm.qx u8v) (GTerm.h3_41t u8v))], []⟩ (.cons (cimpl_variable_d h1058) .nil) ?_
                  obtain rfl := Option.some.inj h; exact Wc.ret dn
                · refine Wc.cF h1057 ?_
                  refine Wc.seqJ (fun st => ∃ (ubq : Bool), st = ⟨[tV 0 (.sl (List.map GIns.c uk)), tI 1 (wr.i64 (us + 1)), tI 2 ur, tP 6 6, tP 9 9, tB 66 ubq], [(6, .cells [aI 0, .str (bs []), aI 0, .slx] [(3, .ex 41 true (List.map GTerm.c []))]), bC 9 (GIns.q uc)], []⟩ ∧ pimpl_termFrom_d_J3 k (pimpl_termFrom_d k) us uc uk ur ubq = some r) ?_ ?_
                  · rcases oif h with ⟨h1066, h⟩ | ⟨h1066, h⟩
                    · refine Wc.r2 [{}, {}, {}, {}, {}, {}, {}, { re := some (.bool true) }] ⟨[tV 0 (.sl (List.map GIns.c uk)), tI 1 (wr.i64 (us + 1)), tI 2 ur, tP 6 6, tP 9 9, tB 66 true], [(6, .cells [aI 0, .str (bs []), aI 0, .slx] [(3, .ex 41 true (List.map GTerm.c []))]), bC 9 (GIns.q uc)], []⟩ (.cons (congrArg AV.bool h1066) .nil) ?_
                      exact ⟨_, rfl, h⟩
                    · obtain ⟨udw, h1067, h⟩ := obind h
                      refine Wc.r2 [{}, {}, {}, {}, {}, {}, {}, { re := some (.bool false) }, {}, {}, { r := some (.v (.bool udw) []) }] ⟨[tV 0 (.sl (List.map GIns.c uk)), tI 1 (wr.i64 (us + 1)), tI 2 ur, tP 6 6, tP 9 9, tB 66 (!udw)], [(6, .cells [aI 0, .str (bs []), aI 0, .slx] [(3, .ex 41 true (List.map GTerm.c []))]), bC 9 (GIns.q uc)], []⟩ (.cons (congrArg AV.bool h1066) (.cons (cimpl_within h1067) .nil)) ?_
                      exact ⟨_, rfl, h⟩
                  · rintro st ⟨ubq, rfl, h⟩
                    rcases oif h with ⟨h1059, h⟩ | ⟨h1059, h⟩
                    · refine Wc.cT h1059 ?_
                      apply Wc.seq
                      refine Wc.r1 [{}, {}, { tk := [80] }] ⟨[tP 6 6, tI 7 (wr.i64 (us + 1)), tB 8 false], [(6, .cells GTerm.z [(3, .app 41)])], []⟩ ?_
                      refine Wc.fx [.ow (.b 6 3) true] ⟨[tP 6 6, tI 7 (wr.i64 (us + 1)), tB 8 false], [(6, .cells [aI 0, .str (bs []), aI 0, .slx] [(3, .ex 41 true (List.map GTerm.c []))])], []⟩ ?_
                      obtain rfl := Option.some.inj h; exact Wc.ret dn
                    · refine Wc.cF h1059 ?_
                      refine Wc.fx [] ⟨[tV 0 (.sl (List.map GIns.c uk)), tI 1 (wr.i64 (us + 1)), tI 2 ur, tP 6 6, tP 9 9], [(6, .cells [aI 0, .str (bs []), aI 0, .slx] [(3, .ex 41 true (List.map GTerm.c []))]), bC 9 (GIns.q uc)], []⟩ ?_
                      refine Wc.skip ?_
                      apply Wc.seq
                      obtain ⟨u68, h1060, h⟩ := obind h
                      refine Wc.r2 [{}, {}, { tk := [2000083], r := some (.v (.agg (GTerm.qx u68)) (GTerm.h3_41t u68)) }, {}, { tk := [84] }] ⟨[tV 0 (.sl (List.map GIns.c uk)), tI 1 (wr.i64 (us + 1)), tI 2 ur, tP 6 6, tP 9 9, tP 10 10], [(6, .cells [aI 0, .str (bs []), aI 0, .slx] [(3, .ex 41 true (List.map GTerm.c []))]), bC 9 (GIns.q uc), (10, .cells (GTerm.qx u68) (GTerm.h3_41t u68))], []⟩ (.cons (cimpl_structure_d h1060) .nil) ?_
                      apply Wc.seq
                      apply Wc.seq
                      refine Wc.r0 ⟨[tV 0 (.sl (List.map GIns.c uk)), tI 1 (wr.i64 (us + 1)), tI 2 ur, tP 6 6, tP 9 9, tP 10 10, tI 11 0], [(6, .cells [aI 0, .str (bs []), aI 0, .slx] [(3, .ex 41 true (List.map GTerm.c []))]), bC 9 (GIns.q uc), (10, .cells (GTerm.qx u68) (GTerm.h3_41t u68))], []⟩ ?_
                      obtain ⟨out4, h1061, h⟩ := obind h
                      refine Wc.lastJ (fun st => ∃ (u8u : Int) (u69 : GTerm), out4 = .done (u8u, u69) ∧ st = ⟨[tI 1 u8u, tP 6 6, tP 10 10], [(6, .cells [aI 0, .str (bs []), aI 0, .slx] [(3, .ex 41 true (List.map GTerm.c []))]), (10, .cells (GTerm.qx u69) (GTerm.h3_41t u69))], []⟩) ?_ ?_
                      · refine Wc.block ?_
                        refine Wc.loop (fun m st => ∃ (u3d : Int) (u2z : Int) (vx : GTerm), st = ⟨[tV 0 (.sl (List.map GIns.c uk)), tI 1 u3d, tI 2 ur, tP 6 6, tP 9 9, tP 10 10, tI 11 u2z], [(6, .cells [aI 0, .str (bs []), aI 0, .slx] [(3, .ex 41 true (List.map GTerm.c []))]), bC 9 (GIns.q uc), (10, .cells (GTerm.qx vx) (GTerm.h3_41t vx))], []⟩ ∧ pimpl_termFrom_d_L4 k (pimpl_termFrom_d k) uc uk ur m u3d u2z vx = some out4) ?_ k ⟨_, _, _, rfl, h1061⟩
                        rintro m st ⟨u3d, u2z, vx, rfl, h1061⟩
                        cases m with
                        | zero => exact (onone h1061).elim
                        | succ m =>
                          apply Wc.seq
                          apply Wc.seq
                          refine Wc.r0 ⟨[tV 0 (.sl (List.map GIns.c uk)), tI 1 u3d, tI 2 ur, tP 6 6, tP 9 9, tP 10 10, tI 11 u2z, tB 88 (decide (u2z < uc.gMany))], [(6, .cells [aI 0, .str (bs []), aI 0, .slx] [(3, .ex 41 true (List.map GTerm.c []))]), bC 9 (GIns.q uc), (10, .cells (GTerm.qx vx) (GTerm.h3_41t vx))], []⟩ ?_
                          rcases oif h1061 with ⟨h1062, h1061⟩ | ⟨h1062, h1061⟩
                          · refine Wc.cT h1062 ?_
                            refine Wc.fx [] ⟨[tV 0 (.sl (List.map GIns.c uk)), tI 1 u3d, tI 2 ur, tP 6 6, tP 9 9, tP 10 10, tI 11 u2z], [(6, .cells [aI 0, .str (bs []), aI 0, .slx] [(3, .ex 41 true (List.map GTerm.c []))]), bC 9 (GIns.q uc), (10, .cells (GTerm.qx vx) (GTerm.h3_41t vx))], []⟩ ?_
                            refine Wc.skip ?_
                            apply Wc.seq
                            refine Wc.block ?_
                            apply Wc.seq
                            obtain ⟨vy, h1063, h1061⟩ := obind h1061
                            refine Wc.r2 [{}, {}, {}, {}, { r := some (.v (.tup [.agg (GTerm.qx vy.1), aI vy.2.1, .bool vy.2.2]) (GTerm.h3_41t vy.1)) }, { tk := [96] }, { tk := [91] }, {}, {}, {}, { tk := [97] }] ⟨[tV 0 (.sl (List.map GIns.c uk)), tI 1 u3d, tI 2 ur, tP 6 6, tP 9 9, tP 10 10, tI 11 u2z, tP 12 12, tI 13 vy.2.1, tB 14 vy.2.2], [(6, .cells [aI 0, .str (bs []), aI 0, .slx] [(3, .ex 41 true (List.map GTerm.c []))]), bC 9 (GIns.q uc), (10, .cells (GTerm.qx vx) (GTerm.h3_41t vx)), (12, .cells (GTerm.qx vy.1) (GTerm.h3_41t vy.1))], []⟩ (.cons (ih_pimpl_termFrom_d h1063) .nil) ?_
                            apply Wc.seq
                            apply Wc.seq
                            refine Wc.r0 ⟨[tV 0 (.sl (List.map GIns.c uk)), tI 1 u3d, tI 2 ur, tP 6 6, tP 9 9, tP 10 10, tI 11 u2z, tP 12 12, tI 13 vy.2.1, tB 101 (!vy.2.2)], [(6, .cells [aI 0, .str (bs []), aI 0, .slx] [(3, .ex 41 true (List.map GTerm.c []))]), bC 9 (GIns.q uc), (10, .cells (GTerm.qx vx) (GTerm.h3_41t vx)), (12, .cells (GTerm.qx vy.1) (GTerm.h3_41t vy.1))], []⟩ ?_
                            rcases oif h1061 with ⟨h1064, h1061⟩ | ⟨h1064, h1061⟩
                            · refine Wc.cT h1064 ?_
                              apply Wc.seq
                              refine Wc.r1 [{}, {}, { tk := [102] }] ⟨[tP 6 6, tI 7 u3d, tB 8 false], [(6, .cells GTerm.z [(3, .app 41)])], []⟩ ?_
                              refine Wc.fx [.ow (.b 6 3) true] ⟨[tP 6 6, tI 7 u3d, tB 8 false], [(6, .cells [aI 0, .str (bs []), aI 0, .slx] [(3, .ex 41 true (List.map GTerm.c []))])], []⟩ ?_
                              refine Wc.ret ?_
                              obtain rfl := Option.some.inj h1061
                              obtain rfl := Option.some.inj h
                              exact ⟨.inl rfl, by kernel_rfl, by kernel_rfl⟩
                            · refine Wc.cF h1064 ?_
                              refine Wc.fx [] ⟨[tV 0 (.sl (List.map GIns.c uk)), tI 2 ur, tP 6 6, tP 9 9, tP 10 10, tI 11 u2z, tP 12 12, tI 13 vy.2.1], [(6, .cells [aI 0, .str (bs []), aI 0, .slx] [(3, .ex 41 true (List.map GTerm.c []))]), bC 9 (GIns.q uc), (10, .cells (GTerm.qx vx) (GTerm.h3_41t vx)), (12, .cells (GTerm.qx vy.1) (GTerm.h3_41t vy.1))], []⟩ ?_
                              refine Wc.skip ?_
                              apply Wc.seq
                              obtain ⟨h1065, h1061⟩ := oguard h1061
                              refine Wc.r2 [{}, { md := 1 }, { md := 1 }, { c := some (List.map GTerm.c [vy.1]), tk := [106], md := 2 }, { c := some (List.map GTerm.c (vx.gKids ++ [vy.1])), tk := [105, 107], md := 2 }, {}, { tk := [108] }] ⟨[tV 0 (.sl (List.map GIns.c uk)), tI 2 ur, tP 6 6, tP 9 9, tP 10 10, tI 11 u2z, tI 13 vy.2.1], [(6, .cells [aI 0, .str (bs []), aI 0, .slx] [(3, .ex 41 true (List.map GTerm.c []))]), bC 9 (GIns.q uc), (10, .cells (GTerm.qx vx) [(3, .ex 41 true (List.map GTerm.c (vx.gKids ++ [vy.1])))])], []⟩ (.cons (cl_cons (c := GTerm.c) (x := vy.1) (GTerm.c_eq vy.1) (cl_nil GTerm.c)) (.cons (app_re2 GTerm.c vx.gKids [vy.1]) (.cons (app_obl2 (c := GTerm.c) (xs := vx.gKids) (ys := [vy.1]) GTerm.c_len h1065) .nil))) ?_
                              refine Wc.r0 ⟨[tV 0 (.sl (List.map GIns.c uk)), tI 1 vy.2.1, tI 2 ur, tP 6 6, tP 9 9, tP 10 10, tI 11 u2z], [(6, .cells [aI 0, .str (bs []), aI 0, .slx] [(3, .ex 41 true (List.map GTerm.c []))]), bC 9 (GIns.q uc), (10, .cells (GTerm.qx vx) [(3, .ex 41 true (List.map GTerm.c (vx.gKids ++ [vy.1])))])], []⟩ ?_
                              refine Wc.r0 ⟨[tV 0 (.sl (List.map GIns.c uk)), tI 1 vy.2.1, tI 2 ur, tP 6 6, tP 9 9, tP 10 10, tI 11 (wr.i64 (u2z + 1))], [(6, .cells [aI 0, .str (bs []), aI 0, .slx] [(3, .ex 41 true (List.map GTerm.c []))]), bC 9 (GIns.q uc), (10, .cells (GTerm.qx vx) [(3, .ex 41 true (List.map GTerm.c (vx.gKids ++ [vy.1])))])], []⟩ ?_
                              exact ⟨_, Nat.lt_succ_self _, _, _, _, rfl, h1061⟩
                          · refine Wc.cF h1062 ?_
                            refine Wc.fx [] ⟨[tI 1 u3d, tP 6 6, tP 10 10], [(6, .cells [aI 0, .str (bs []), aI 0, .slx] [(3, .ex 41 true (List.map GTerm.c []))]), (10, .cells (GTerm.qx vx) (GTerm.h3_41t vx))], []⟩ ?_
                            refine Wc.exit ?_
                            obtain rfl := Option.some.inj h1061
                            exact ⟨_, _, rfl, rfl⟩
                      · rintro st ⟨u8u, u69, rfl, rfl⟩
                        apply Wc.seq
                        refine Wc.r1 [{ md := 1 }, {}, { tk := [111] }] ⟨[tP 6 6, tI 7 u8u, tB 8 true], [(6, .cells (GTerm.qx u69) (GTerm.h3_41t u69))], []⟩ ?_
                        obtain rfl := Option.some.inj h; exact Wc.ret dn
theorem cimpl_termFrom_d {k : Nat} {uk : List GIns} {us : Int} {ur : Int} {r : GTerm × Int × Bool} (h : pimpl_termFrom_d k uk us ur = some r) : FnO Try.prog 99 [.v (.sl (List.map GIns.c uk)) [], .v (aI us) [], .v (aI ur) []] (.v (.tup [.agg (GTerm.qx r.1), aI r.2.1, .bool r.2.2]) (GTerm.h3_41t r.1)) [] := (all_pimpl_termFrom_d k) h

def pimpl_WordsOf_d_L1 (k : Nat) (vh : List Int) : Nat → (List Int) → Int → Option (Out ((List GIns) × (List Int)) (List Int))
  | 0, _, _ => none
  | m + 1, u11, u29 =>
    if (decide (u29 < (vh.length : Int))) = true then
      (at' vh u29).bind fun vq =>
      (pslices_Contains___int_int_ k u11 vq).bind fun u3e =>
      if (!u3e) = true then
        if u11.length + [vq].length ≤ 1073741824 then
          pimpl_WordsOf_d_L1 k vh m (u11 ++ [vq]) (wr.i64 (u29 + 1))
        else none
      else
        pimpl_WordsOf_d_L1 k vh m u11 (wr.i64 (u29 + 1))
    else
      some (.done u11)
def pimpl_WordsOf_d (k : Nat) (u0r : GTerm) (vh : List Int) : Option ((List GIns) × (List Int)) :=
  (pimpl_WordsOf_d_L1 k vh k [] 0).bind fun out1 => match out1 with
  | .ret r => some r
  | .done u50 =>
    (pimpl_TermOk k u0r).bind fun u3p =>
    if (!u3p) = true then
      some ([], u50)
    else
      (pimpl_wordsOf_d k u0r u50).bind fun u70 =>
      some (u70.1, u70.2)
theorem cimpl_WordsOf_d {k : Nat} {u0r : GTerm} {vh : List Int} {r : (List GIns) × (List Int)} (h : pimpl_WordsOf_d k u0r vh = some r) : FnO Try.prog 37 [.v (.agg (GTerm.q u0r)) [], .v (.sl (List.map cI.i64 vh)) []] (.v (.tup [.slx, .slx]) [(0, .ex 128 true (List.map GIns.c r.1)), (1, .ex 3 true (List.map cI.i64 r.2))]) [] := by
  refine FnO.o2 Try.func37 (rfl : Try.f37.body = some _) ?_
  intro w0 X0 Fin pv0 pb
  unfold pimpl_WordsOf_d at h
  apply Wc.seq
  refine Wc.r0 ⟨[tV 1 (.sl (List.map cI.i64 vh)), tP 2 2], [bC 2 (GTerm.q u0r)], []⟩ ?_
  apply Wc.seq
  refine Wc.r0 ⟨[tV 1 (.sl (List.map cI.i64 vh)), tP 2 2, (6, (.v (.sl (List.map cI.i64 [])), [(0, .app 3)]))], [bC 2 (GTerm.q u0r)], []⟩ ?_
  apply Wc.seq
  apply Wc.seq
  refine Wc.r2 [{}, { v := some (aI (vh.length : Int)) }] ⟨[tP 2 2, (6, (.v (.sl (List.map cI.i64 [])), [(0, .app 3)])), tV 9 (.sl (List.map cI.i64 vh)), tI 10 (vh.length : Int), tI 11 0], [bC 2 (GTerm.q u0r)], []⟩ (.cons (len_obl cI.i64 vh) .nil) ?_
  obtain ⟨out1, h1045, h⟩ := obind h
  refine Wc.lastJ (fun st => ∃ (u50 : List Int), out1 = .done u50 ∧ st = ⟨[tP 2 2, (6, (.v (.slx), [(0, .ex 3 true (List.map cI.i64 u50))]))], [bC 2 (GTerm.q u0r)], []⟩) ?_ ?_
  · refine Wc.block ?_
    refine Wc.fx [.ow (.t 6 0) true] ⟨[tP 2 2, (6, (.v (.slx), [(0, .ex 3 true (List.map cI.i64 []))])), tV 9 (.sl (List.map cI.i64 vh)), tI 10 (vh.length : Int), tI 11 0], [bC 2 (GTerm.q u0r)], []⟩ ?_
    refine Wc.loop (fun m st => ∃ (u11 : List Int) (u29 : Int), st = ⟨[tP 2 2, (6, (.v (.slx), [(0, .ex 3 true (List.map cI.i64 u11))])), tV 9 (.sl (List.map cI.i64 vh)), tI 10 (vh.length : Int), tI 11 u29], [bC 2 (GTerm.q u0r)], []⟩ ∧ pimpl_WordsOf_d_L1 k vh m u11 u29 = some out1) ?_ k ⟨_, _, rfl, h1045⟩
    rintro m st ⟨u11, u29, rfl, h1045⟩
    cases m with
    | zero => exact (onone h1045).elim
    | succ m =>
      apply Wc.seq
      refine Wc.r0 ⟨[tP 2 2, (6, (.v (.slx), [(0, .ex 3 true (List.map cI.i64 u11))])), tV 9 (.sl (List.map cI.i64 vh)), tI 10 (vh.length : Int), tI 11 u29, tB 12 (decide (u29 < (vh.length : Int)))], [bC 2 (GTerm.q u0r)], []⟩ ?_
      apply Wc.seq
      rcases oif h1045 with ⟨h1046, h1045⟩ | ⟨h1046, h1045⟩
      · refine Wc.cT h1046 ?_
        refine Wc.fx [] ⟨[tP 2 2, (6, (.v (.slx), [(0, .ex 3 true (List.map cI.i64 u11))])), tV 9 (.sl (List.map cI.i64 vh)), tI 10 (vh.length : Int), tI 11 u29], [bC 2 (GTerm.q u0r)], []⟩ ?_
        refine Wc.skip ?_
        apply Wc.seq
        refine Wc.block ?_
        apply Wc.seq
        obtain ⟨vq, h1047, h1045⟩ := obind h1045
        refine Wc.r2 [{ v := some (.vptr [aI vq]) }] ⟨[tP 2 2, (6, (.v (.slx), [(0, .ex 3 true (List.map cI.i64 u11))])), tI 8 vq, tV 9 (.sl (List.map cI.i64 vh)), tI 10 (vh.length : Int), tI 11 u29], [bC 2 (GTerm.q u0r)], []⟩ (.cons (at_obl (c := cI.i64) rfl cI.i64_len h1047) (.cons (len_ok 1 [aI vq]) .nil)) ?_
        apply Wc.seq
        obtain ⟨u3e, h1048, h1045⟩ := obind h1045
        refine Wc.r2 [{}, {}, { r := some (.v (.bool u3e) []) }] ⟨[tP 2 2, (6, (.v (.slx), [(0, .ex 3 true (List.map cI.i64 u11))])), tI 8 vq, tV 9 (.sl (List.map cI.i64 vh)), tI 10 (vh.length : Int), tI 11 u29, tB 18 (!u3e)], [bC 2 (GTerm.q u0r)], []⟩ (.cons (cslices_Contains___int_int_ h1048) .nil) ?_
        rcases oif h1045 with ⟨h1049, h1045⟩ | ⟨h1049, h1045⟩
        · refine Wc.cT h1049 ?_
          obtain ⟨h1050, h1045⟩ := oguard h1045
          refine Wc.r2 [{ tk := [6] }, {}, { c := some (List.map cI.i64 [vq]) }, { c := some (List.map cI.i64 (u11 ++ [vq])), tk := [19], md := 2 }, { tk := [22] }] ⟨[tP 2 2, (6, (.v (.slx), [(0, .ex 3 true (List.map cI.i64 (u11 ++ [vq])))])), tV 9 (.sl (List.map cI.i64 vh)), tI 10 (vh.length : Int), tI 11 u29], [bC 2 (GTerm.q u0r)], []⟩ (.cons (cl_cons (c := cI.i64) (x := vq) rfl (cl_nil cI.i64)) (.cons (app_re2 cI.i64 u11 [vq]) (.cons (app_scal (c := cI.i64) (ys := [vq]) cI.i64_scal) (.cons (app_obl2 (c := cI.i64) (xs := u11) (ys := [vq]) cI.i64_len h1050) .nil)))) ?_
          refine Wc.r0 ⟨[tP 2 2, (6, (.v (.slx), [(0, .ex 3 true (List.map cI.i64 (u11 ++ [vq])))])), tV 9 (.sl (List.map cI.i64 vh)), tI 10 (vh.length : Int), tI 11 (wr.i64 (u29 + 1))], [bC 2 (GTerm.q u0r)], []⟩ ?_
          exact ⟨_, Nat.lt_succ_self _, _, _, rfl, h1045⟩
        · refine Wc.cF h1049 ?_
          refine Wc.fx [] ⟨[tP 2 2, (6, (.v (.slx), [(0, .ex 3 true (List.map cI.i64 u11))])), tV 9 (.sl (List.map cI.i64 vh)), tI 10 (vh.length : Int), tI 11 u29], [bC 2 (GTerm.q u0r)], []⟩ ?_
          refine Wc.skip ?_
          refine Wc.r0 ⟨[tP 2 2, (6, (.v (.slx), [(0, .ex 3 true (List.map cI.i64 u11))])), tV 9 (.sl (List.map cI.i64 vh)), tI 10 (vh.length : Int), tI 11 (wr.i64 (u29 + 1))], [bC 2 (GTerm.q u0r)], []⟩ ?_
          exact ⟨_, Nat.lt_succ_self _, _, _, rfl, h1045⟩
      · refine Wc.cF h1046 ?_
        refine Wc.fx [] ⟨[tP 2 2, (6, (.v (.slx), [(0, .ex 3 true (List.map cI.i64 u11))]))], [bC 2 (GTerm.q u0r)], []⟩ ?_
        refine Wc.exit ?_
        obtain rfl := Option.some.inj h1045
        exact ⟨_, rfl, rfl⟩
  · rintro st ⟨u50, rfl, rfl⟩
    apply Wc.seq
    apply Wc.seq
    obtain ⟨u3p, h1051, h⟩ := obind h
    refine Wc.r2 [{}, { r := some (.v (.bool u3p) []) }] ⟨[tP 2 2, (6, (.v (.slx), [(0, .ex 3 true (List.map cI.i64 u50))])), tB 26 (!u3p)], [bC 2 (GTerm.q u0r)], []⟩ (.cons (cimpl_TermOk h1051) .nil) ?_
    rcases oif h with ⟨h1052, h⟩ | ⟨h1052, h⟩
    · refine Wc.cT h1052 ?_
      apply Wc.seq
      refine Wc.r1 [{ tk := [6] }, {}, { tk := [27] }] ⟨[(4, (.v (.sl (List.map GIns.c [])), [(0, .app 128)])), (5, (.v (.slx), [(0, .ex 3 true (List.map cI.i64 u50))]))], [], []⟩ ?_
      refine Wc.fx [.ow (.t 4 0) true] ⟨[(4, (.v (.slx), [(0, .ex 128 true (List.map GIns.c []))])), (5, (.v (.slx), [(0, .ex 3 true (List.map cI.i64 u50))]))], [], []⟩ ?_
      obtain rfl := Option.some.inj h; exact Wc.ret dn
    · refine Wc.cF h1052 ?_
      refine Wc.fx [] ⟨[tP 2 2, (6, (.v (.slx), [(0, .ex 3 true (List.map cI.i64 u50))]))], [bC 2 (GTerm.q u0r)], []⟩ ?_
      refine Wc.skip ?_
      apply Wc.seq
      obtain ⟨u70, h1053, h⟩ := obind h
      refine Wc.r2 [{}, { tk := [6] }, { tk := [29], r := some (.v (.tup [.slx, .slx]) [(0, .ex 128 true (List.map GIns.c u70.1)), (1, .ex 3 true (List.map cI.i64 u70.2))]) }, { tk := [30] }, { tk := [30] }, { tk := [31] }, { tk := [32] }] ⟨[(4, (.v (.slx), [(0, .ex 128 true (List.map GIns.c u70.1))])), (5, (.v (.slx), [(0, .ex 3 true (List.map cI.i64 u70.2))]))], [], []⟩ (.cons (cimpl_wordsOf_d h1053) .nil) ?_
      obtain rfl := Option.some.inj h; exact Wc.ret dn

def pimpl_TermOf_d (k : Nat) (u4n : List GIns) : Option (GTerm × Bool) :=
  (pimpl_termFrom_d k u4n 0 1).bind fun u0d =>
  if (!u0d.2.2) = true then
    some (GTerm.mk 0 (bs []) 0 [], false)
  else
    if (u0d.2.1 != (u4n.length : Int)) = true then
      some (GTerm.mk 0 (bs []) 0 [], false)
    else
      (pimpl_TermOk k u0d.1).bind fun udx =>
      if (!udx) = true then
        some (GTerm.mk 0 (bs []) 0 [], false)
      else
        some (u0d.1, true)
theorem cimpl_TermOf_d {k : Nat} {u4n : List GIns} {r : GTerm × Bool} (h : pimpl_TermOf_d k u4n = some r) : FnO Try.prog 38 [.v (.sl (List.map GIns.c u4n)) []] (.v (.tup [.agg (GTerm.qx r.1), .bool r.2]) (GTerm.h3_41t r.1)) [] := by
  refine FnO.o2 Try.func38 (rfl : Try.f38.body = some _) ?_
  intro w0 X0 Fin pv0 pb
  unfold pimpl_TermOf_d at h
  apply Wc.seq
  refine Wc.r0 ⟨[tV 0 (.sl (List.map GIns.c u4n)), tP 2 2], [(2, .cells GTerm.z [(3, .app 41)])], []⟩ ?_
  apply Wc.seq
  obtain ⟨u0d, h1041, h⟩ := obind h
  refine Wc.r2 [{}, { r := some (.v (.tup [.agg (GTerm.qx u0d.1), aI u0d.2.1, .bool u0d.2.2]) (GTerm.h3_41t u0d.1)) }, { tk := [9] }, { tk := [7] }, {}, {}, {}, { tk := [10] }] ⟨[tV 0 (.sl (List.map GIns.c u4n)), tP 2 2, tP 4 4, tI 5 u0d.2.1, tB 6 u0d.2.2], [(2, .cells GTerm.z [(3, .app 41)]), (4, .cells (GTerm.qx u0d.1) (GTerm.h3_41t u0d.1))], []⟩ (.cons (cimpl_termFrom_d h1041) .nil) ?_
  apply Wc.seq
  apply Wc.seq
  rcases oif h with ⟨h1042, h⟩ | ⟨h1042, h⟩
  · refine Wc.r2 [{}, {}, { re := some (.bool true) }] ⟨[tP 2 2, tP 4 4, tB 25 true], [(2, .cells GTerm.z [(3, .app 41)]), (4, .cells (GTerm.qx u0d.1) (GTerm.h3_41t u0d.1))], []⟩ (.cons (congrArg AV.bool h1042) .nil) ?_
    refine Wc.cT rfl ?_
    apply Wc.seq
    refine Wc.r1 [{}, { tk := [26] }] ⟨[tP 2 2, tB 3 false], [(2, .cells GTerm.z [(3, .app 41)])], []⟩ ?_
    refine Wc.fx [.ow (.b 2 3) true] ⟨[tP 2 2, tB 3 false], [(2, .cells [aI 0, .str (bs []), aI 0, .slx] [(3, .ex 41 true (List.map GTerm.c []))])], []⟩ ?_
    obtain rfl := Option.some.inj h; exact Wc.ret dn
  · rcases oif h with ⟨h1043, h⟩ | ⟨h1043, h⟩
    · refine Wc.r2 [{}, {}, { re := some (.bool false) }, {}, {}, { v := some (aI (u4n.length : Int)) }, {}, {}, { re := some (.bool true) }] ⟨[tP 2 2, tP 4 4, tB 25 true], [(2, .cells GTerm.z [(3, .app 41)]), (4, .cells (GTerm.qx u0d.1) (GTerm.h3_41t u0d.1))], []⟩ (.cons (congrArg AV.bool h1042) (.cons (len_obl GIns.c u4n) (.cons (congrArg AV.bool h1043) .nil))) ?_
      refine Wc.cT rfl ?_
      apply Wc.seq
      refine Wc.r1 [{}, { tk := [26] }] ⟨[tP 2 2, tB 3 false], [(2, .cells GTerm.z [(3, .app 41)])], []⟩ ?_
      refine Wc.fx [.ow (.b 2 3) true] ⟨[tP 2 2, tB 3 false], [(2, .cells [aI 0, .str (bs []), aI 0, .slx] [(3, .ex 41 true (List.map GTerm.c []))])], []⟩ ?_
      obtain rfl := Option.some.inj h; exact Wc.ret dn
    · obtain ⟨udx, h1044, h⟩ := obind h
      refine Wc.r2 [{}, {}, { re := some (.bool false) }, {}, {}, { v := some (aI (u4n.length : Int)) }, {}, {}, { re := some (.bool false) }, {}, { r := some (.v (.bool udx) []) }] ⟨[tP 2 2, tP 4 4, tB 25 (!udx)], [(2, .cells GTerm.z [(3, .app 41)]), (4, .cells (GTerm.qx u0d.1) (GTerm.h3_41t u0d.1))], []⟩ (.cons (congrArg AV.bool h1042) (.cons (len_obl GIns.c u4n) (.cons (congrArg AV.bool h1043) (.cons (cimpl_TermOk h1044) .nil)))) ?_
      rcases oif h with ⟨h1045, h⟩ | ⟨h1045, h⟩
      · refine Wc.cT h1045 ?_
        apply Wc.seq
        refine Wc.r1 [{}, { tk := [26] }] ⟨[tP 2 2, tB 3 false], [(2, .cells GTerm.z [(3, .app 41)])], []⟩ ?_
        refine Wc.fx [.ow (.b 2 3) true] ⟨[tP 2 2, tB 3 false], [(2, .cells [aI 0, .str (bs []), aI 0, .slx] [(3, .ex 41 true (List.map GTerm.c []))])], []⟩ ?_
        obtain rfl := Option.some.inj h; exact Wc.ret dn
      · refine Wc.cF h1045 ?_
        refine Wc.fx [] ⟨[tP 2 2, tP 4 4], [(2, .cells GTerm.z [(3, .app 41)]), (4, .cells (GTerm.qx u0d.1) (GTerm.h3_41t u0d.1))], []⟩ ?_
        refine Wc.skip ?_
        apply Wc.seq
        refine Wc.r1 [{ md := 1 }, { tk := [27] }] ⟨[tP 2 2, tB 3 true], [(2, .cells (GTerm.qx u0d.1) (GTerm.h3_41t u0d.1))], []⟩ ?_
        obtain rfl := Option.some.inj h; exact Wc.ret dn

def pimpl_CodeOf_d (k : Nat) (u12 : GClause) : Option (GCode × Bool) :=
  (pimpl_TermOk k u12.gHead).bind fun udy =>
  if (!udy) = true then
    some (GCode.mk [] [] 0, false)
  else
    (pimpl_TermOk k u12.gBody).bind fun u1v =>
    if (!u1v) = true then
      some (GCode.mk [] [] 0, false)
    else
      (pimpl_WordsOf_d k u12.gHead []).bind fun u5s =>
      (pimpl_WordsOf_d k u12.gBody u5s.2).bind fun u8y =>
      (pimpl_varsUpTo k [u12.gHead, u12.gBody]).bind fun vq =>
      some (GCode.mk u5s.1 u8y.1 vq, true)
theorem cimpl_CodeOf_d {k : Nat} {u12 : GClause} {r : GCode × Bool} (h : pimpl_CodeOf_d k u12 = some r) : FnO Try.prog 40 [.v (.agg (GClause.q u12)) []] (.v (.tup [.agg [.slx, .slx, aI r.1.gVars], .bool r.2]) [(0, .ex 128 true (List.map GIns.c r.1.gHead)), (1, .ex 128 true (List.map GIns.c r.1.gBody))]) [] := by
  refine FnO.o2 Try.func40 (rfl : Try.f40.body = some _) ?_
  intro w0 X0 Fin pv0 pb
  unfold pimpl_CodeOf_d at h
  apply Wc.seq
  refine Wc.r0 ⟨[tP 1 1, tP 2 2], [bC 1 (GClause.q u12), (2, .cells GCode.z [(0, .app 128), (1, .app 128)])], []⟩ ?_
  apply Wc.seq
  apply Wc.seq
  obtain ⟨udy, h1045, h⟩ := obind h
  rcases oif h with ⟨h1046, h⟩ | ⟨h1046, h⟩
  · refine Wc.r2 [{}, {}, { r := some (.v (.bool udy) []) }, {}, { re := some (.bool true) }] ⟨[tP 1 1, tP 2 2, tB 17 true], [bC 1 (GClause.q u12), (2, .cells GCode.z [(0, .app 128), (1, .app 128)])], []⟩ (.cons (cimpl_TermOk h1045) (.cons (congrArg AV.bool h1046) .nil)) ?_
    refine Wc.cT rfl ?_
    apply Wc.seq
    refine Wc.r1 [{}, { tk := [18] }] ⟨[tP 2 2, tB 3 false], [(2, .cells GCode.z [(0, .app 128), (1, .app 128)])], []⟩ ?_
    refine Wc.fx [.ow (.b 2 0) true, .ow (.b 2 1) true] ⟨[tP 2 2, tB 3 false], [(2, .cells [.slx, .slx, aI 0] [(0, .ex 128 true (List.map GIns.c [])), (1, .ex 128 true (List.map GIns.c []))])], []⟩ ?_
    obtain rfl := Option.some.inj h; exact Wc.ret dn
  · obtain ⟨u1v, h1047, h⟩ := obind h
    refine Wc.r2 [{}, {}, { r := some (.v (.bool udy) []) }, {}, { re := some (.bool false) }, {}, {}, { r := some (.v (.bool u1v) []) }] ⟨[tP 1 1, tP 2 2, tB 17 (!u1v)], [bC 1 (GClause.q u12), (2, .cells GCode.z [(0, .app 128), (1, .app 128)])], []⟩ (.cons (cimpl_TermOk h1045) (.cons (congrArg AV.bool h1046) (.cons (cimpl_TermOk h1047) .nil))) ?_
    rcases oif h with ⟨h1048, h⟩ | ⟨h1048, h⟩
    · refine Wc.cT h1048 ?_
      apply Wc.seq
      refine Wc.r1 [{}, { tk := [18] }] ⟨[tP 2 2, tB 3 false], [(2, .cells GCode.z [(0, .app 128), (1, .app 128)])], []⟩ ?_
      refine Wc.fx [.ow (.b 2 0) true, .ow (.b 2 1) true] ⟨[tP 2 2, tB 3 false], [(2, .cells [.slx, .slx, aI 0] [(0, .ex 128 true (List.map GIns.c [])), (1, .ex 128 true (List.map GIns.c []))])], []⟩ ?_
      obtain rfl := Option.some.inj h; exact Wc.ret dn
    · refine Wc.cF h1048 ?_
      refine Wc.fx [] ⟨[tP 1 1, tP 2 2], [bC 1 (GClause.q u12), (2, .cells GCode.z [(0, .app 128), (1, .app 128)])], []⟩ ?_
      refine Wc.skip ?_
      apply Wc.seq
      obtain ⟨u5s, h1049, h⟩ := obind h
      refine Wc.r2 [{}, {}, { r := some (.v (.tup [.slx, .slx]) [(0, .ex 128 true (List.map GIns.c u5s.1)), (1, .ex 3 true (List.map cI.i64 u5s.2))]) }, { tk := [22] }, { tk := [19] }, { tk := [19] }, { tk := [23] }, { tk := [24] }] ⟨[tP 1 1, tP 2 2, (4, (.v (.slx), [(0, .ex 128 true (List.map GIns.c u5s.1))])), (5, (.v (.slx), [(0, .ex 3 true (List.map cI.i64 u5s.2))]))], [bC 1 (GClause.q u12), (2, .cells GCode.z [(0, .app 128), (1, .app 128)])], []⟩ (.cons (cimpl_WordsOf_d h1049) .nil) ?_
      apply Wc.seq
      obtain ⟨u8y, h1050, h⟩ := obind h
      refine Wc.r2 [{}, {}, { tk := [5] }, { r := some (.v (.tup [.slx, .slx]) [(0, .ex 128 true (List.map GIns.c u8y.1)), (1, .ex 3 true (List.map cI.i64 u8y.2))]) }, { tk := [29] }, { tk := [25] }, { tk := [25] }, { tk := [30] }, { tk := [31] }] ⟨[tP 1 1, tP 2 2, (4, (.v (.slx), [(0, .ex 128 true (List.map GIns.c u5s.1))])), (6, (.v (.slx), [(0, .ex 128 true (List.map GIns.c u8y.1))]))], [bC 1 (GClause.q u12), (2, .cells GCode.z [(0, .app 128), (1, .app 128)])], []⟩ (.cons (cimpl_WordsOf_d h1050) .nil) ?_
      apply Wc.seq
      obtain ⟨vq, h1051, h⟩ := obind h
      refine Wc.r2 [{ tk := [4] }, { tk := [6] }, {}, {}, {}, {}, { c := some (List.map GTerm.c [u12.gHead, u12.gBody]) }, { r := some (.v (aI vq) []) }, { tk := [32, 33] }, { tk := [40] }] ⟨[tP 2 2, tB 3 true], [(2, .cells [.slx, .slx, aI vq] [(0, .ex 128 true (List.map GIns.c u5s.1)), (1, .ex 128 true (List.map GIns.c u8y.1))])], []⟩ (.cons (cl_cons (c := GTerm.c) (x := u12.gHead) (GTerm.c_eq u12.gHead) (cl_cons (c := GTerm.c) (x := u12.gBody) (GTerm.c_eq u12.gBody) (cl_nil GTerm.c))) (.cons (cimpl_varsUpTo h1051) .nil)) ?_
      obtain rfl := Option.some.inj h; exact Wc.ret dn

def plaws_FnCodes (k : Nat) (u1f : List Int) : Option Bool :=
  (plaws_big k u1f).bind fun udz =>
  if udz = true then
    some true
  else
    (pspec_DrawTerm k u1f).bind fun u1w =>
    (pimpl_WordsOf_d k u1w []).bind fun v2 =>
    (pimpl_TermOf_d k v2.1).bind fun vl =>
    (pspec_DrawCodeOf k u1f).bind fun u8z =>
    (pimpl_CodeOf_d k u8z).bind fun va =>
    (pspec_CodeOf k u8z).bind fun u13 =>
    (pspec_DrawTermOf k u1f).bind fun u90 =>
    (pimpl_TermOf_d k u90).bind fun u14 =>
    (pspec_TermOf k u90).bind fun u3q =>
    (pspec_DrawWordsOf k u1f).bind fun u4o =>
    (pimpl_WordsOf_d k u4o.1 u4o.2).bind fun u5t =>
    (pspec_WordsOf k u4o.1 u4o.2).bind fun u71 =>
    if vl.2 = true then
      (pspec_SameTerm k vl.1 u1w).bind fun u1v =>
      if u1v = true then
        (pspec_VarsOf k u1w).bind fun u46 =>
        (plaws_sameInts k v2.2 u46).bind fun u47 =>
        if u47 = true then
          (pspec_SizeOf k u1w).bind fun vq =>
          if ((v2.1.length : Int) == vq) = true then
            if (va.2 == u13.2) = true then
              (plaws_sameWords k va.1.gHead u13.1.gHead).bind fun u3e =>
              if u3e = true then
                (plaws_sameWords k va.1.gBody u13.1.gBody).bind fun u3p =>
                if u3p = true then
                  if (va.1.gVars == u13.1.gVars) = true then
                    if (u14.2 == u3q.2) = true then
                      (pspec_SameTerm k u14.1 u3q.1).bind fun u4y =>
                      if u4y = true then
                        (plaws_sameWords k u5t.1 u71.1).bind fun ue0 =>
                        if ue0 = true then
                          (plaws_sameInts k u5t.2 u71.2).bind fun u4z =>
                          some u4z
                        else
                          some false
                      else
                        some false
                    else
                      some false
                  else
                    some false
                else
                  some false
              else
                some false
            else
              some false
          else
            some false
        else
          some false
      else
        some false
    else
      some false
set_option maxHeartbeats 4000000 in
theorem claws_FnCodes {k : Nat} {u1f : List Int} {r : Bool} (h : plaws_FnCodes k u1f = some r) : FnO Try.prog 6 [.v (.sl (List.map cI.u8 u1f)) []] (.v (.bool r) []) [] := by
  refine FnO.o2 Try.func6 (rfl : Try.f6.body = some _) ?_
  intro w0 X0 Fin pv0 pb
  unfold plaws_FnCodes at h
  apply Wc.seq
  refine Wc.r0 ⟨[tV 0 (.sl (List.map cI.u8 u1f))], [], []⟩ ?_
  apply Wc.seq
  apply Wc.seq
  obtain ⟨udz, h1032, h⟩ := obind h
  refine Wc.r2 [{}, { r := some (.v (.bool udz) []) }] ⟨[tV 0 (.sl (List.map cI.u8 u1f)), tB 25 udz], [], []⟩ (.cons (claws_big h1032) .nil) ?_
  rcases oif h with ⟨h1033, h⟩ | ⟨h1033, h⟩
  · refine Wc.cT h1033 ?_
    apply Wc.seq
    refine Wc.r0 ⟨[tB 2 true], [], []⟩ ?_
    obtain rfl := Option.some.inj h; exact Wc.ret dn
  · refine Wc.cF h1033 ?_
    refine Wc.fx [] ⟨[tV 0 (.sl (List.map cI.u8 u1f))], [], []⟩ ?_
    refine Wc.skip ?_
    apply Wc.seq
    obtain ⟨u1w, h1034, h⟩ := obind h
    refine Wc.r2 [{}, { r := some (.v (.agg (GTerm.q u1w)) [(3, .app 41)]) }, {}, { tk := [27] }] ⟨[tV 0 (.sl (List.map cI.u8 u1f)), tP 3 3], [(3, .cells (GTerm.q u1w) [(3, .app 41)])], []⟩ (.cons (cspec_DrawTerm h1034) .nil) ?_
    apply Wc.seq
    obtain ⟨v2, h1035, h⟩ := obind h
    refine Wc.r2 [{}, { c := some (List.map cI.i64 []) }, { r := some (.v (.tup [.slx, .slx]) [(0, .ex 128 true (List.map GIns.c v2.1)), (1, .ex 3 true (List.map cI.i64 v2.2))]) }, { tk := [31] }, { tk := [28] }, { tk := [28] }, { tk := [32] }, { tk := [33] }] ⟨[tV 0 (.sl (List.map cI.u8 u1f)), tP 3 3, (4, (.v (.slx), [(0, .ex 128 true (List.map GIns.c v2.1))])), (5, (.v (.slx), [(0, .ex 3 true (List.map cI.i64 v2.2))]))], [(3, .cells (GTerm.q u1w) [(3, .app 41)])], []⟩ (.cons (cl_nil cI.i64) (.cons (cimpl_WordsOf_d h1035) .nil)) ?_
    apply Wc.seq
    obtain ⟨vl, h1036, h⟩ := obind h
    refine Wc.r2 [{}, { r := some (.v (.tup [.agg (GTerm.qx vl.1), .bool vl.2]) (GTerm.h3_41t vl.1)) }, { tk := [36] }, { tk := [34] }, {}, {}, { tk := [37] }] ⟨[tV 0 (.sl (List.map cI.u8 u1f)), tP 3 3, (4, (.v (.slx), [(0, .ex 128 true (List.map GIns.c v2.1))])), (5, (.v (.slx), [(0, .ex 3 true (List.map cI.i64 v2.2))])), tP 6 6, tB 7 vl.2], [(3, .cells (GTerm.q u1w) [(3, .app 41)]), (6, .cells (GTerm.qx vl.1) (GTerm.h3_41t vl.1))], []⟩ (.cons (cimpl_TermOf_d h1036) .nil) ?_
    apply Wc.seq
    obtain ⟨u8z, h1037, h⟩ := obind h
    refine Wc.r2 [{}, { r := some (.v (.agg (GClause.q u8z)) [(3, .app 41), (7, .app 41)]) }, {}, { tk := [40] }] ⟨[tV 0 (.sl (List.map cI.u8 u1f)), tP 3 3, (4, (.v (.slx), [(0, .ex 128 true (List.map GIns.c v2.1))])), (5, (.v (.slx), [(0, .ex 3 true (List.map cI.i64 v2.2))])), tP 6 6, tB 7 vl.2, tP 8 8], [(3, .cells (GTerm.q u1w) [(3, .app 41)]), (6, .cells (GTerm.qx vl.1) (GTerm.h3_41t vl.1)), (8, .cells (GClause.q u8z) [(3, .app 41), (7, .app 41)])], []⟩ (.cons (cspec_DrawCodeOf h1037) .nil) ?_
    apply Wc.seq
    obtain ⟨va, h1038, h⟩ := obind h
    refine Wc.r2 [{}, { r := some (.v (.tup [.agg [.slx, .slx, aI va.1.gVars], .bool va.2]) [(0, .ex 128 true (List.map GIns.c va.1.gHead)), (1, .ex 128 true (List.map GIns.c va.1.gBody))]) }, { tk := [43] }, { tk := [41] }, {}, {}, { tk := [44] }] ⟨[tV 0 (.sl (List.map cI.u8 u1f)), tP 3 3, (4, (.v (.slx), [(0, .ex 128 true (List.map GIns.c v2.1))])), (5, (.v (.slx), [(0, .ex 3 true (List.map cI.i64 v2.2))])), tP 6 6, tB 7 vl.2, tP 8 8, tP 9 9, tB 10 va.2], [(3, .cells (GTerm.q u1w) [(3, .app 41)]), (6, .cells (GTerm.qx vl.1) (GTerm.h3_41t vl.1)), (8, .cells (GClause.q u8z) [(3, .app 41), (7, .app 41)]), (9, .cells [.slx, .slx, aI va.1.gVars] [(0, .ex 128 true (List.map GIns.c va.1.gHead)), (1, .ex 128 true (List.map GIns.c va.1.gBody))])], []⟩ (.cons (cimpl_CodeOf_d h1038) .nil) ?_
    apply Wc.seq
    obtain ⟨u13, h1039, h⟩ := obind h
    refine Wc.r2 [{}, { r := some (.v (.tup [.agg (GCode.q u13.1), .bool u13.2]) []) }] ⟨[tV 0 (.sl (List.map cI.u8 u1f)), tP 3 3, (4, (.v (.slx), [(0, .ex 128 true (List.map GIns.c v2.1))])), (5, (.v (.slx), [(0, .ex 3 true (List.map cI.i64 v2.2))])), tP 6 6, tB 7 vl.2, tP 9 9, tB 10 va.2, tP 11 11, tB 12 u13.2], [(3, .cells (GTerm.q u1w) [(3, .app 41)]), (6, .cells (GTerm.qx vl.1) (GTerm.h3_41t vl.1)), (9, .cells [.slx, .slx, aI va.1.gVars] [(0, .ex 128 true (List.map GIns.c va.1.gHead)), (1, .ex 128 true (List.map GIns.c va.1.gBody))]), bC 11 (GCode.q u13.1)], []⟩ (.cons (cspec_CodeOf h1039) .nil) ?_
    apply Wc.seq
    obtain ⟨u90, h1040, h⟩ := obind h
    refine Wc.r2 [{}, { r := some (.v (.sl (List.map GIns.c u90)) []) }] ⟨[tV 0 (.sl (List.map cI.u8 u1f)), tP 3 3, (4, (.v (.slx), [(0, .ex 128 true (List.map GIns.c v2.1))])), (5, (.v (.slx), [(0, .ex 3 true (List.map cI.i64 v2.2))])), tP 6 6, tB 7 vl.2, tP 9 9, tB 10 va.2, tP 11 11, tB 12 u13.2, tV 13 (.sl (List.map GIns.c u90))], [(3, .cells (GTerm.q u1w) [(3, .app 41)]), (6, .cells (GTerm.qx vl.1) (GTerm.h3_41t vl.1)), (9, .cells [.slx, .slx, aI va.1.gVars] [(0, .ex 128 true (List.map GIns.c va.1.gHead)), (1, .ex 128 true (List.map GIns.c va.1.gBody))]), bC 11 (GCode.q u13.1)], []⟩ (.cons (cspec_DrawTermOf h1040) .nil) ?_
    apply Wc.seq
    obtain ⟨u14, h1041, h⟩ := obind h
    refine Wc.r2 [{}, { r := some (.v (.tup [.agg (GTerm.qx u14.1), .bool u14.2]) (GTerm.h3_41t u14.1)) }, { tk := [55] }, { tk := [53] }, {}, {}, { tk := [56] }] ⟨[tV 0 (.sl (List.map cI.u8 u1f)), tP 3 3, (4, (.v (.slx), [(0, .ex 128 true (List.map GIns.c v2.1))])), (5, (.v (.slx), [(0, .ex 3 true (List.map cI.i64 v2.2))])), tP 6 6, tB 7 vl.2, tP 9 9, tB 10 va.2, tP 11 11, tB 12 u13.2, tV 13 (.sl (List.map GIns.c u90)), tP 14 14, tB 15 u14.2], [(3, .cells (GTerm.q u1w) [(3, .app 41)]), (6, .cells (GTerm.qx vl.1) (GTerm.h3_41t vl.1)), (9, .cells [.slx, .slx, aI va.1.gVars] [(0, .ex 128 true (List.map GIns.c va.1.gHead)), (1, .ex 128 true (List.map GIns.c va.1.gBody))]), bC 11 (GCode.q u13.1), (14, .cells (GTerm.qx u14.1) (GTerm.h3_41t u14.1))], []⟩ (.cons (cimpl_TermOf_d h1041) .nil) ?_
    apply Wc.seq
    obtain ⟨u3q, h1042, h⟩ := obind h
    refine Wc.r2 [{}, { r := some (.v (.tup [.agg (GTerm.q u3q.1), .bool u3q.2]) [(3, .app 41)]) }, { tk := [60] }, { tk := [58] }, {}, {}, { tk := [61] }] ⟨[tV 0 (.sl (List.map cI.u8 u1f)), tP 3 3, (4, (.v (.slx), [(0, .ex 128 true (List.map GIns.c v2.1))])), (5, (.v (.slx), [(0, .ex 3 true (List.map cI.i64 v2.2))])), tP 6 6, tB 7 vl.2, tP 9 9, tB 10 va.2, tP 11 11, tB 12 u13.2, tP 14 14, tB 15 u14.2, tP 16 16, tB 17 u3q.2], [(3, .cells (GTerm.q u1w) [(3, .app 41)]), (6, .cells (GTerm.qx vl.1) (GTerm.h3_41t vl.1)), (9, .cells [.slx, .slx, aI va.1.gVars] [(0, .ex 128 true (List.map GIns.c va.1.gHead)), (1, .ex 128 true (List.map GIns.c va.1.gBody))]), bC 11 (GCode.q u13.1), (14, .cells (GTerm.qx u14.1) (GTerm.h3_41t u14.1)), (16, .cells (GTerm.q u3q.1) [(3, .app 41)])], []⟩ (.cons (cspec_TermOf h1042) .nil) ?_
    apply Wc.seq
    obtain ⟨u4o, h1043, h⟩ := obind h
    refine Wc.r2 [{}, { r := some (.v (.tup [.agg (GTerm.q u4o.1), .sl (List.map cI.i64 u4o.2)]) [(3, .app 41), (4, .app 3)]) }, { tk := [65] }, { tk := [63] }, { tk := [63] }, {}, { tk := [66] }, { tk := [67] }] ⟨[tP 3 3, (4, (.v (.slx), [(0, .ex 128 true (List.map GIns.c v2.1))])), (5, (.v (.slx), [(0, .ex 3 true (List.map cI.i64 v2.2))])), tP 6 6, tB 7 vl.2, tP 9 9, tB 10 va.2, tP 11 11, tB 12 u13.2, tP 14 14, tB 15 u14.2, tP 16 16, tB 17 u3q.2, tP 18 18, (19, (.v (.sl (List.map cI.i64 u4o.2)), [(0, .app 3)]))], [(3, .cells (GTerm.q u1w) [(3, .app 41)]), (6, .cells (GTerm.qx vl.1) (GTerm.h3_41t vl.1)), (9, .cells [.slx, .slx, aI va.1.gVars] [(0, .ex 128 true (List.map GIns.c va.1.gHead)), (1, .ex 128 true (List.map GIns.c va.1.gBody))]), bC 11 (GCode.q u13.1), (14, .cells (GTerm.qx u14.1) (GTerm.h3_41t u14.1)), (16, .cells (GTerm.q u3q.1) [(3, .app 41)]), (18, .cells (GTerm.q u4o.1) [(3, .app 41)])], []⟩ (.cons (cspec_DrawWordsOf h1043) .nil) ?_
    apply Wc.seq
    obtain ⟨u5t, h1044, h⟩ := obind h
    refine Wc.r2 [{}, {}, { r := some (.v (.tup [.slx, .slx]) [(0, .ex 128 true (List.map GIns.c u5t.1)), (1, .ex 3 true (List.map cI.i64 u5t.2))]) }, { tk := [71] }, { tk := [68] }, { tk := [68] }, { tk := [72] }, { tk := [73] }] ⟨[tP 3 3, (4, (.v (.slx), [(0, .ex 128 true (List.map GIns.c v2.1))])), (5, (.v (.slx), [(0, .ex 3 true (List.map cI.i64 v2.2))])), tP 6 6, tB 7 vl.2, tP 9 9, tB 10 va.2, tP 11 11, tB 12 u13.2, tP 14 14, tB 15 u14.2, tP 16 16, tB 17 u3q.2, tP 18 18, (19, (.v (.sl (List.map cI.i64 u4o.2)), [(0, .app 3)])), (20, (.v (.slx), [(0, .ex 128 true (List.map GIns.c u5t.1))])), (21, (.v (.slx), [(0, .ex 3 true (List.map cI.i64 u5t.2))]))], [(3, .cells (GTerm.q u1w) [(3, .app 41)]), (6, .cells (GTerm.qx vl.1) (GTerm.h3_41t vl.1)), (9, .cells [.slx, .slx, aI va.1.gVars] [(0, .ex 128 true (List.map GIns.c va.1.gHead)), (1, .ex 128 true (List.map GIns.c va.1.gBody))]), bC 11 (GCode.q u13.1), (14, .cells (GTerm.qx u14.1) (GTerm.h3_41t u14.1)), (16, .cells (GTerm.q u3q.1) [(3, .app 41)]), (18, .cells (GTerm.q u4o.1) [(3, .app 41)])], []⟩ (.cons (cimpl_WordsOf_d h1044) .nil) ?_
    apply Wc.seq
    obtain ⟨u71, h1045, h⟩ := obind h
    refine Wc.r2 [{}, { tk := [19] }, { r := some (.v (.tup [.sl (List.map GIns.c u71.1), .sl (List.map cI.i64 u71.2)]) []) }] ⟨[tP 3 3, (4, (.v (.slx), [(0, .ex 128 true (List.map GIns.c v2.1))])), (5, (.v (.slx), [(0, .ex 3 true (List.map cI.i64 v2.2))])), tP 6 6, tB 7 vl.2, tP 9 9, tB 10 va.2, tP 11 11, tB 12 u13.2, tP 14 14, tB 15 u14.2, tP 16 16, tB 17 u3q.2, (20, (.v (.slx), [(0, .ex 128 true (List.map GIns.c u5t.1))])), (21, (.v (.slx), [(0, .ex 3 true (List.map cI.i64 u5t.2))])), tV 22 (.sl (List.map GIns.c u71.1)), tV 23 (.sl (List.map cI.i64 u71.2))], [(3, .cells (GTerm.q u1w) [(3, .app 41)]), (6, .cells (GTerm.qx vl.1) (GTerm.h3_41t vl.1)), (9, .cells [.slx, .slx, aI va.1.gVars] [(0, .ex 128 true (List.map GIns.c va.1.gHead)), (1, .ex 128 true (List.map GIns.c va.1.gBody))]), bC 11 (GCode.q u13.1), (14, .cells (GTerm.qx u14.1) (GTerm.h3_41t u14.1)), (16, .cells (GTerm.q u3q.1) [(3, .app 41)])], []⟩ (.cons (cspec_WordsOf h1045) .nil) ?_
    apply Wc.seq
    rcases oif h with ⟨h1046, h⟩ | ⟨h1046, h⟩
    · obtain ⟨u1v, h1047, h⟩ := obind h
      rcases oif h with ⟨h1048, h⟩ | ⟨h1048, h⟩
      · obtain ⟨u46, h1049, h⟩ := obind h
        obtain ⟨u47, h1050, h⟩ := obind h
        rcases oif h with ⟨h1051, h⟩ | ⟨h1051, h⟩
        · obtain ⟨vq, h1052, h⟩ := obind h
          rcases oif h with ⟨h1053, h⟩ | ⟨h1053, h⟩
          · rcases oif h with ⟨h1054, h⟩ | ⟨h1054, h⟩
            · obtain ⟨u3e, h1055, h⟩ := obind h
              rcases oif h with ⟨h1056, h⟩ | ⟨h1056, h⟩
              · obtain ⟨u3p, h1057, h⟩ := obind h
                rcases oif h with ⟨h1058, h⟩ | ⟨h1058, h⟩
                · rcases oif h with ⟨h1059, h⟩ | ⟨h1059, h⟩
                  · rcases oif h with ⟨h1060, h⟩ | ⟨h1060, h⟩
                    · obtain ⟨u4y, h1061, h⟩ := obind h
                      rcases oif h with ⟨h1062, h⟩ | ⟨h1062, h⟩
                      · obtain ⟨ue0, h1063, h⟩ := obind h
                        rcases oif h with ⟨h1064, h⟩ | ⟨h1064, h⟩
                        · obtain ⟨u4z, h1065, h⟩ := obind h
                          refine Wc.r2 [{}, { re := some (.bool true) }, {}, {}, { r := some (.v (.bool u1v) []) }, {}, { re := some (.bool true) }, { tk := [5] }, {}, { r := some (.v (.sl (List.map cI.i64 u46)) []) }, { r := some (.v (.bool u47) []) }, {}, { re := some (.bool true) }, { tk := [4] }, { v := some (aI (v2.1.length : Int)) }, {}, { r := some (.v (aI vq) []) }, {}, {}, { re := some (.bool true) }, {}, {}, {}, {}, { re := some (.bool true) }, {}, {}, {}, {}, { r := some (.v (.bool u3e) []) }, {}, { re := some (.bool true) }, {}, {}, {}, {}, { r := some (.v (.bool u3p) []) }, {}, { re := some (.bool true) }, {}, {}, {}, {}, {}, {}, { re := some (.bool true) }, {}, {}, {}, {}, { re := some (.bool true) }, {}, {}, { r := some (.v (.bool u4y) []) }, {}, { re := some (.bool true) }, { tk := [20] }, {}, { r := some (.v (.bool ue0) []) }, {}, { re := some (.bool true) }, { tk := [21] }, {}, { r := some (.v (.bool u4z) []) }] ⟨[tB 2 u4z], [], []⟩ (.cons (congrArg AV.bool h1046) (.cons (cspec_SameTerm h1047) (.cons (congrArg AV.bool h1048) (.cons (cspec_VarsOf h1049) (.cons (claws_sameInts h1050) (.cons (congrArg AV.bool h1051) (.cons (len_obl GIns.c v2.1) (.cons (cspec_SizeOf h1052) (.cons (congrArg AV.bool h1053) (.cons (congrArg AV.bool h1054) (.cons (claws_sameWords h1055) (.cons (congrArg AV.bool h1056) (.cons (claws_sameWords h1057) (.cons (congrArg AV.bool h1058) (.cons (congrArg AV.bool h1059) (.cons (congrArg AV.bool h1060) (.cons (cspec_SameTerm h1061) (.cons (congrArg AV.bool h1062) (.cons (claws_sameWords h1063) (.cons (congrArg AV.bool h1064) (.cons (claws_sameInts h1065) .nil))))))))))))))))))))) ?_
                          obtain rfl := Option.some.inj h; exact Wc.ret dn
                        · refine Wc.r2 [{}, { re := some (.bool true) }, {}, {}, { r := some (.v (.bool u1v) []) }, {}, { re := some (.bool true) }, { tk := [5] }, {}, { r := some (.v (.sl (List.map cI.i64 u46)) []) }, { r := some (.v (.bool u47) []) }, {}, { re := some (.bool true) }, { tk := [4] }, { v := some (aI (v2.1.length : Int)) }, {}, { r := some (.v (aI vq) []) }, {}, {}, { re := some (.bool true) }, {}, {}, {}, {}, { re := some (.bool true) }, {}, {}, {}, {}, { r := some (.v (.bool u3e) []) }, {}, { re := some (.bool true) }, {}, {}, {}, {}, { r := some (.v (.bool u3p) []) }, {}, { re := some (.bool true) }, {}, {}, {}, {}, {}, {}, { re := some (.bool true) }, {}, {}, {}, {}, { re := some (.bool true) }, {}, {}, { r := some (.v (.bool u4y) []) }, {}, { re := some (.bool true) }, { tk := [20] }, {}, { r := some (.v (.bool ue0) []) }, {}, { re := some (.bool false) }] ⟨[tB 2 false], [], []⟩ (.cons (congrArg AV.bool h1046) (.cons (cspec_SameTerm h1047) (.cons (congrArg AV.bool h1048) (.cons (cspec_VarsOf h1049) (.cons (claws_sameInts h1050) (.cons (congrArg AV.bool h1051) (.cons (len_obl GIns.c v2.1) (.cons (cspec_SizeOf h1052) (.cons (congrArg AV.bool h1053) (.cons (congrArg AV.bool h1054) (.cons (claws_sameWords h1055) (.cons (congrArg AV.bool h1056) (.cons (claws_sameWords h1057) (.cons (congrArg AV.bool h1058) (.cons (congrArg AV.bool h1059) (.cons (congrArg AV.bool h1060) (.cons (cspec_SameTerm h1061) (.cons (congrArg AV.bool h1062) (.cons (claws_sameWords h1063) (.cons (congrArg AV.bool h1064) .nil)))))))))))))))))))) ?_
                          obtain rfl := Option.some.inj h; exact Wc.ret dn
                      · refine Wc.r2 [{}, { re := some (.bool true) }, {}, {}, { r := some (.v (.bool u1v) []) }, {}, { re := some (.bool true) }, { tk := [5] }, {}, { r := some (.v (.sl (List.map cI.i64 u46)) []) }, { r := some (.v (.bool u47) []) }, {}, { re := some (.bool true) }, { tk := [4] }, { v := some (aI (v2.1.length : Int)) }, {}, { r := some (.v (aI vq) []) }, {}, {}, { re := some (.bool true) }, {}, {}, {}, {}, { re := some (.bool true) }, {}, {}, {}, {}, { r := some (.v (.bool u3e) []) }, {}, { re := some (.bool true) }, {}, {}, {}, {}, { r := some (.v (.bool u3p) []) }, {}, { re := some (.bool true) }, {}, {}, {}, {}, {}, {}, { re := some (.bool true) }, {}, {}, {}, {}, { re := some (.bool true) }, {}, {}, { r := some (.v (.bool u4y) []) }, {}, { re := some (.bool false) }] ⟨[tB 2 false], [], []⟩ (.cons (congrArg AV.bool h1046) (.cons (cspec_SameTerm h1047) (.cons (congrArg AV.bool h1048) (.cons (cspec_VarsOf h1049) (.cons (claws_sameInts h1050) (.cons (congrArg AV.bool h1051) (.cons (len_obl GIns.c v2.1) (.cons (cspec_SizeOf h1052) (.cons (congrArg AV.bool h1053) (.cons (congrArg AV.bool h1054) (.cons (claws_sameWords h1055) (.cons (congrArg AV.bool h1056) (.cons (claws_sameWords h1057) (.cons (congrArg AV.bool h1058) (.cons (congrArg AV.bool h1059) (.cons (congrArg AV.bool h1060) (.cons (cspec_SameTerm h1061) (.cons (congrArg AV.bool h1062) .nil)))))))))))))))))) ?_
                        obtain rfl := Option.some.inj h; exact Wc.ret dn
                    · refine Wc.r2 [{}, { re := some (.bool true) }, {}, {}, { r := some (.v (.bool u1v) []) }, {}, { re := some (.bool true) }, { tk := [5] }, {}, { r := some (.v (.sl (List.map cI.i64 u46)) []) }, { r := some (.v (.bool u47) []) }, {}, { re := some (.bool true) }, { tk := [4] }, { v := some (aI (v2.1.length : Int)) }, {}, { r := some (.v (aI vq) []) }, {}, {}, { re := some (.bool true) }, {}, {}, {}, {}, { re := some (.bool true) }, {}, {}, {}, {}, { r := some (.v (.bool u3e) []) }, {}, { re := some (.bool true) }, {}, {}, {}, {}, { r := some (.v (.bool u3p) []) }, {}, { re := some (.bool true) }, {}, {}, {}, {}, {}, {}, { re := some (.bool true) }, {}, {}, {}, {}, { re := some (.bool false) }] ⟨[tB 2 false], [], []⟩ (.cons (congrArg AV.bool h1046) (.cons (cspec_SameTerm h1047) (.cons (congrArg AV.bool h1048) (.cons (cspec_VarsOf h1049) (.cons (claws_sameInts h1050) (.cons (congrArg AV.bool h1051) (.cons (len_obl GIns.c v2.1) (.cons (cspec_SizeOf h1052) (.cons (congrArg AV.bool h1053) (.cons (congrArg AV.bool h1054) (.cons (claws_sameWords h1055) (.cons (congrArg AV.bool h1056) (.cons (claws_sameWords h1057) (.cons (congrArg AV.bool h1058) (.cons (congrArg AV.bool h1059) (.cons (congrArg AV.bool h1060) .nil)))))))))))))))) ?_
                      obtain rfl := Option.some.inj h; exact Wc.ret dn
                  · refine Wc.r2 [{}, { re := some (.bool true) }, {}, {}, { r := some (.v (.bool u1v) []) }, {}, { re := some (.bool true) }, { tk := [5] }, {}, { r := some (.v (.sl (List.map cI.i64 u46)) []) }, { r := some (.v (.bool u47) []) }, {}, { re := some (.bool true) }, { tk := [4] }, { v := some (aI (v2.1.length : Int)) }, {}, { r := some (.v (aI vq) []) }, {}, {}, { re := some (.bool true) }, {}, {}, {}, {}, { re := some (.bool true) }, {}, {}, {}, {}, { r := some (.v (.bool u3e) []) }, {}, { re := some (.bool true) }, {}, {}, {}, {}, { r := some (.v (.bool u3p) []) }, {}, { re := some (.bool true) }, {}, {}, {}, {}, {}, {}, { re := some (.bool false) }] ⟨[tB 2 false], [], []⟩ (.cons (congrArg AV.bool h1046) (.cons (cspec_SameTerm h1047) (.cons (congrArg AV.bool h1048) (.cons (cspec_VarsOf h1049) (.cons (claws_sameInts h1050) (.cons (congrArg AV.bool h1051) (.cons (len_obl GIns.c v2.1) (.cons (cspec_SizeOf h1052) (.cons (congrArg AV.bool h1053) (.cons (congrArg AV.bool h1054) (.cons (claws_sameWords h1055) (.cons (congrArg AV.bool h1056) (.cons (claws_sameWords h1057) (.cons (congrArg AV.bool h1058) (.cons (congrArg AV.bool h1059) .nil))))))))))))))) ?_
                    obtain rfl := Option.some.inj h; exact Wc.ret dn
                · refine Wc.r2 [{}, { re := some (.bool true) }, {}, {}, { r := some (.v (.bool u1v) []) }, {}, { re := some (.bool true) }, { tk := [5] }, {}, { r := some (.v (.sl (List.map cI.i64 u46)) []) }, { r := some (.v (.bool u47) []) }, {}, { re := some (.bool true) }, { tk := [4] }, { v := some (aI (v2.1.length : Int)) }, {}, { r := some (.v (aI vq) []) }, {}, {}, { re := some (.bool true) }, {}, {}, {}, {}, { re := some (.bool true) }, {}, {}, {}, {}, { r := some (.v (.bool u3e) []) }, {}, { re := some (.bool true) }, {}, {}, {}, {}, { r := some (.v (.bool u3p) []) }, {}, { re := some (.bool false) }] ⟨[tB 2 false], [], []⟩ (.cons (congrArg AV.bool h1046) (.cons (cspec_SameTerm h1047) (.cons (congrArg AV.bool h1048) (.cons (cspec_VarsOf h1049) (.cons (claws_sameInts h1050) (.cons (congrArg AV.bool h1051) (.cons (len_obl GIns.c v2.1) (.cons (cspec_SizeOf h1052) (.cons (congrArg AV.bool h1053) (.cons (congrArg AV.bool h1054) (.cons (claws_sameWords h1055) (.cons (congrArg AV.bool h1056) (.cons (claws_sameWords h1057) (.cons (congrArg AV.bool h1058) .nil)))))))))))))) ?_
                  obtain rfl := Option.some.inj h; exact Wc.ret dn
              · refine Wc.r2 [{}, { re := some (.bool true) }, {}, {}, { r := some (.v (.bool u1v) []) }, {}, { re := some (.bool true) }, { tk := [5] }, {}, { r := some (.v (.sl (List.map cI.i64 u46)) []) }, { r := some (.v (.bool u47) []) }, {}, { re := some (.bool true) }, { tk := [4] }, { v := some (aI (v2.1.length : Int)) }, {}, { r := some (.v (aI vq) []) }, {}, {}, { re := some (.bool true) }, {}, {}, {}, {}, { re := some (.bool true) }, {}, {}, {}, {}, { r := some (.v (.bool u3e) []) }, {}, { re := some (.bool false) }] ⟨[tB 2 false], [], []⟩ (.cons (congrArg AV.bool h1046) (.cons (cspec_SameTerm h1047) (.cons (congrArg AV.bool h1048) (.cons (cspec_VarsOf h1049) (.cons (claws_sameInts h1050) (.cons (congrArg AV.bool h1051) (.cons (len_obl GIns.c v2.1) (.cons (cspec_SizeOf h1052) (.cons (congrArg AV.bool h1053) (.cons (congrArg AV.bool h1054) (.cons (claws_sameWords h1055) (.cons (congrArg AV.bool h1056) .nil)))))))))))) ?_
                obtain rfl := Option.some.inj h; exact Wc.ret dn
            · refine Wc.r2 [{}, { re := some (.bool true) }, {}, {}, { r := some (.v (.bool u1v) []) }, {}, { re := some (.bool true) }, { tk := [5] }, {}, { r := some (.v (.sl (List.map cI.i64 u46)) []) }, { r := some (.v (.bool u47) []) }, {}, { re := some (.bool true) }, { tk := [4] }, { v := some (aI (v2.1.length : Int)) }, {}, { r := some (.v (aI vq) []) }, {}, {}, { re := some (.bool true) }, {}, {}, {}, {}, { re := some (.bool false) }] ⟨[tB 2 false], [], []⟩ (.cons (congrArg AV.bool h1046) (.cons (cspec_SameTerm h1047) (.cons (congrArg AV.bool h1048) (.cons (cspec_VarsOf h1049) (.cons (claws_sameInts h1050) (.cons (congrArg AV.bool h1051) (.cons (len_obl GIns.c v2.1) (.cons (cspec_SizeOf h1052) (.cons (congrArg AV.bool h1053) (.cons (congrArg AV.bool h1054) .nil)))))))))) ?_
              obtain rfl := Option.some.inj h; exact Wc.ret dn
          · refine Wc.r2 [{}, { re := some (.bool true) }, {}, {}, { r := some (.v (.bool u1v) []) }, {}, { re := some (.bool true) }, { tk := [5] }, {}, { r := some (.v (.sl (List.map cI.i64 u46)) []) }, { r := some (.v (.bool u47) []) }, {}, { re := some (.bool true) }, { tk := [4] }, { v := some (aI (v2.1.length : Int)) }, {}, { r := some (.v (aI vq) []) }, {}, {}, { re := some (.bool false) }] ⟨[tB 2 false], [], []⟩ (.cons (congrArg AV.bool h1046) (.cons (cspec_SameTerm h1047) (.cons (congrArg AV.bool h1048) (.cons (cspec_VarsOf h1049) (.cons (claws_sameInts h1050) (.cons (congrArg AV.bool h1051) (.cons (len_obl GIns.c v2.1) (.cons (cspec_SizeOf h1052) (.cons (congrArg AV.bool h1053) .nil))))))))) ?_
            obtain rfl := Option.some.inj h; exact Wc.ret dn
        · refine Wc.r2 [{}, { re := some (.bool true) }, {}, {}, { r := some (.v (.bool u1v) []) }, {}, { re := some (.bool true) }, { tk := [5] }, {}, { r := some (.v (.sl (List.map cI.i64 u46)) []) }, { r := some (.v (.bool u47) []) }, {}, { re := some (.bool false) }] ⟨[tB 2 false], [], []⟩ (.cons (congrArg AV.bool h1046) (.cons (cspec_SameTerm h1047) (.cons (congrArg AV.bool h1048) (.cons (cspec_VarsOf h1049) (.cons (claws_sameInts h1050) (.cons (congrArg AV.bool h1051) .nil)))))) ?_
          obtain rfl := Option.some.inj h; exact Wc.ret dn
      · refine Wc.r2 [{}, { re := some (.bool true) }, {}, {}, { r := some (.v (.bool u1v) []) }, {}, { re := some (.bool false) }] ⟨[tB 2 false], [], []⟩ (.cons (congrArg AV.bool h1046) (.cons (cspec_SameTerm h1047) (.cons (congrArg AV.bool h1048) .nil))) ?_
        obtain rfl := Option.some.inj h; exact Wc.ret dn
    · refine Wc.r2 [{}, { re := some (.bool false) }] ⟨[tB 2 false], [], []⟩ (.cons (congrArg AV.bool h1046) .nil) ?_
      obtain rfl := Option.some.inj h; exact Wc.ret dn
end Go.Proofs.Ythemaodhckmnkaa

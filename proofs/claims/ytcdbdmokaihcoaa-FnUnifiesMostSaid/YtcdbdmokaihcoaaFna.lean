/- What the functions do, part 1. -/
import Derived.Test.YtcdbdmokaihcoaaTy
set_option linter.unusedVariables false
set_option linter.unusedSimpArgs false
namespace Go.Proofs.Ytcdbdmokaihcoaa
open Go.RowKit Go.Bv
def plaws_big (k : Nat) (u47 : List Int) : Option Bool :=
  some (decide ((u47.length : Int) > 1048576))
theorem claws_big {k : Nat} {u47 : List Int} {r : Bool} (h : plaws_big k u47 = some r) : FnO Try.prog 4 [.v (.sl (List.map cI.u8 u47)) []] (.v (.bool r) []) [] := by
  refine FnO.o2 Try.func4 (rfl : Try.f4.body = some _) ?_
  intro w0 X0 Fin pv0 pb gt
  unfold plaws_big at h
  apply Wc.seq
  refine Wc.r0 ⟨[tV 0 (.sl (List.map cI.u8 u47))], [], []⟩ ?_
  apply Wc.seq
  refine Wc.r2 [{}, { v := some (aI (u47.length : Int)) }] ⟨[tB 2 (decide ((u47.length : Int) > 1048576))], [], []⟩ (.cons (len_obl cI.u8 u47) .nil) ?_
  obtain rfl := Option.some.inj h; exact Wc.ret dn

def pspec_l01New_L1 (k : Nat) (v9 : List Int) : Nat → Int → Int → Option (Out GL01Cur Int)
  | 0, _, _ => none
  | m + 1, u1a, u1b =>
    if (decide (u1b < (v9.length : Int))) = true then
      if (decide (u1b < 4000)) = true then
        (at' v9 u1b).bind fun u5b =>
        pspec_l01New_L1 k v9 m (band .i64 (wr.i64 ((wr.i64 ((wr.i64 (u1a * 131)) + (wr.i64 u5b))) + 7)) 1073741823) (wr.i64 (u1b + 1))
      else
        some (.done u1a)
    else
      some (.done u1a)
def pspec_l01New (k : Nat) (v9 : List Int) : Option GL01Cur :=
  (pspec_l01New_L1 k v9 k (wr.i64 (95101 + (v9.length : Int))) 0).bind fun out1 => match out1 with
  | .ret r => some r
  | .done u5c =>
    some (GL01Cur.mk v9 0 u5c)
theorem cspec_l01New {k : Nat} {v9 : List Int} {r : GL01Cur} (h : pspec_l01New k v9 = some r) : FnO Try.prog 19 [.v (.sl (List.map cI.u8 v9)) []] (.p (GL01Cur.q r) []) [] := by
  refine FnO.o2 Try.func19 (rfl : Try.f19.body = some _) ?_
  intro w0 X0 Fin pv0 pb gt
  unfold pspec_l01New at h
  apply Wc.seq
  refine Wc.r0 ⟨[tV 0 (.sl (List.map cI.u8 v9))], [], []⟩ ?_
  apply Wc.seq
  refine Wc.r2 [{}, { v := some (aI (v9.length : Int)) }] ⟨[tV 0 (.sl (List.map cI.u8 v9)), tI 3 (wr.i64 (95101 + (v9.length : Int)))], [], []⟩ (.cons (len_obl cI.u8 v9) .nil) ?_
  apply Wc.seq
  apply Wc.seq
  refine Wc.r0 ⟨[tV 0 (.sl (List.map cI.u8 v9)), tI 3 (wr.i64 (95101 + (v9.length : Int))), tI 4 0], [], []⟩ ?_
  obtain ⟨out1, h1, h⟩ := obind h
  refine Wc.lastJ (fun st => ∃ (u5c : Int), out1 = .done u5c ∧ st = ⟨[tV 0 (.sl (List.map cI.u8 v9)), tI 3 u5c], [], []⟩) ?_ ?_
  · refine Wc.block ?_
    refine Wc.loop (fun m st => ∃ (u1a : Int) (u1b : Int), st = ⟨[tV 0 (.sl (List.map cI.u8 v9)), tI 3 u1a, tI 4 u1b], [], []⟩ ∧ pspec_l01New_L1 k v9 m u1a u1b = some out1) ?_ k ⟨_, _, rfl, h1⟩
    rintro m st ⟨u1a, u1b, rfl, h1⟩
    cases m with
    | zero => exact (onone h1).elim
    | succ m =>
      apply Wc.seq
      apply Wc.seq
      rcases oif h1 with ⟨h2, h1⟩ | ⟨h2, h1⟩
      · refine Wc.r2 [{}, {}, { v := some (aI (v9.length : Int)) }, {}, { re := some (.bool true) }] ⟨[tV 0 (.sl (List.map cI.u8 v9)), tI 3 u1a, tI 4 u1b, tB 15 (decide (u1b < 4000))], [], []⟩ (.cons (len_obl cI.u8 v9) (.cons (congrArg AV.bool h2) .nil)) ?_
        rcases oif h1 with ⟨h3, h1⟩ | ⟨h3, h1⟩
        · refine Wc.cT h3 ?_
          refine Wc.fx [] ⟨[tV 0 (.sl (List.map cI.u8 v9)), tI 3 u1a, tI 4 u1b], [], []⟩ ?_
          refine Wc.skip ?_
          apply Wc.seq
          refine Wc.block ?_
          obtain ⟨u5b, h4, h1⟩ := obind h1
          refine Wc.r2 [{}, {}, {}, {}, { v := some (.vptr [.int .u8 u5b]) }] ⟨[tV 0 (.sl (List.map cI.u8 v9)), tI 3 (band .i64 (wr.i64 ((wr.i64 ((wr.i64 (u1a * 131)) + (wr.i64 u5b))) + 7)) 1073741823), tI 4 u1b], [], []⟩ (.cons (at_obl (c := cI.u8) rfl cI.u8_len h4) (.cons (len_ok 1 [.int .u8 u5b]) .nil)) ?_
          refine Wc.r0 ⟨[tV 0 (.sl (List.map cI.u8 v9)), tI 3 (band .i64 (wr.i64 ((wr.i64 ((wr.i64 (u1a * 131)) + (wr.i64 u5b))) + 7)) 1073741823), tI 4 (wr.i64 (u1b + 1))], [], []⟩ ?_
          exact ⟨_, Nat.lt_succ_self _, _, _, rfl, h1⟩
        · refine Wc.cF h3 ?_
          refine Wc.fx [] ⟨[tV 0 (.sl (List.map cI.u8 v9)), tI 3 u1a], [], []⟩ ?_
          refine Wc.exit ?_
          obtain rfl := Option.some.inj h1
          exact ⟨_, rfl, rfl⟩
      · refine Wc.r2 [{}, {}, { v := some (aI (v9.length : Int)) }, {}, { re := some (.bool false) }] ⟨[tV 0 (.sl (List.map cI.u8 v9)), tI 3 u1a, tI 4 u1b, tB 15 false], [], []⟩ (.cons (len_obl cI.u8 v9) (.cons (congrArg AV.bool h2) .nil)) ?_
        refine Wc.cF rfl ?_
        refine Wc.fx [] ⟨[tV 0 (.sl (List.map cI.u8 v9)), tI 3 u1a], [], []⟩ ?_
        refine Wc.exit ?_
        obtain rfl := Option.some.inj h1
        exact ⟨_, rfl, rfl⟩
  · rintro st ⟨u5c, rfl, rfl⟩
    apply Wc.seq
    refine Wc.r0 ⟨[tP 2 31], [bC 31 [.sl (List.map cI.u8 v9), aI 0, aI u5c]], []⟩ ?_
    obtain rfl := Option.some.inj h; exact Wc.ret dn

def pspec_l01Byte (k : Nat) (ub : GL01Cur) : Option (GL01Cur × Int) :=
  if (decide (ub.gI < (ub.gB.length : Int))) = true then
    (at' ub.gB ub.gI).bind fun u4m =>
    some (GL01Cur.mk ub.gB (wr.i64 (ub.gI + 1)) (wr.i64 ((wr.i64 (ub.gH * 6364136223846793005)) + 1442695040888963407)), band .i64 (wr.i64 ((band .i64 (bxor .i64 (bshr .i64 (wr.i64 ((wr.i64 (ub.gH * 6364136223846793005)) + 1442695040888963407)) 33) (bshr .i64 (wr.i64 ((wr.i64 (ub.gH * 6364136223846793005)) + 1442695040888963407)) 45)) 255) + (wr.i64 u4m))) 255)
  else
    some (GL01Cur.mk ub.gB ub.gI (wr.i64 ((wr.i64 (ub.gH * 6364136223846793005)) + 1442695040888963407)), band .i64 (bxor .i64 (bshr .i64 (wr.i64 ((wr.i64 (ub.gH * 6364136223846793005)) + 1442695040888963407)) 33) (bshr .i64 (wr.i64 ((wr.i64 (ub.gH * 6364136223846793005)) + 1442695040888963407)) 45)) 255)
theorem cspec_l01Byte {k : Nat} {ub : GL01Cur} {r : GL01Cur × Int} (h : pspec_l01Byte k ub = some r) : FnO Try.prog 65 [.p (GL01Cur.q ub) []] (.v (aI r.2) []) [(0, .p (GL01Cur.q r.1) [])] := by
  refine FnO.o2 Try.func65 (rfl : Try.f65.body = some _) ?_
  intro w0 X0 Fin pv0 pb gt
  unfold pspec_l01Byte at h
  apply Wc.seq
  refine Wc.r0 ⟨[tP 0 1000000], [bC 1000000 (GL01Cur.q ub)], []⟩ ?_
  apply Wc.seq
  refine Wc.r0 ⟨[tP 0 1000000], [bC 1000000 [.sl (List.map cI.u8 ub.gB), aI ub.gI, aI (wr.i64 ((wr.i64 (ub.gH * 6364136223846793005)) + 1442695040888963407))]], []⟩ ?_
  apply Wc.seq
  refine Wc.draw hmix [] [] [0, 3] [1000000] [] ⟨[tP 0 1000000, tI 3 (band .i64 (bxor .i64 (bshr .i64 (wr.i64 ((wr.i64 (ub.gH * 6364136223846793005)) + 1442695040888963407)) 33) (bshr .i64 (wr.i64 ((wr.i64 (ub.gH * 6364136223846793005)) + 1442695040888963407)) 45)) 255)], [bC 1000000 [.sl (List.map cI.u8 ub.gB), aI ub.gI, aI (wr.i64 ((wr.i64 (ub.gH * 6364136223846793005)) + 1442695040888963407))]], []⟩ _ (by kernel_rfl) (fun X => by kernel_rfl) (.cons (show (0 : Int) ≤ 33 by decide) (.cons (show (0 : Int) ≤ 45 by decide) .nil)) ?_
  apply Wc.seq
  apply Wc.seq
  refine Wc.draw hmix [{}, {}, {}, {}, {}, {}, {}, {}, { v := some (aI (ub.gB.length : Int)) }] [] [0, 3, 34] [1000000] [] ⟨[tP 0 1000000, tI 3 (band .i64 (bxor .i64 (bshr .i64 (wr.i64 ((wr.i64 (ub.gH * 6364136223846793005)) + 1442695040888963407)) 33) (bshr .i64 (wr.i64 ((wr.i64 (ub.gH * 6364136223846793005)) + 1442695040888963407)) 45)) 255), tB 34 (decide (ub.gI < (ub.gB.length : Int)))], [bC 1000000 [.sl (List.map cI.u8 ub.gB), aI ub.gI, aI (wr.i64 ((wr.i64 (ub.gH * 6364136223846793005)) + 1442695040888963407))]], []⟩ _ (by kernel_rfl) (fun X => by kernel_rfl) (.cons (len_obl cI.u8 ub.gB) .nil) ?_
  rcases oif h with ⟨h5, h⟩ | ⟨h5, h⟩
  · refine Wc.cT h5 ?_
    apply Wc.seq
    obtain ⟨u4m, h6, h⟩ := obind h
    refine Wc.draw hmix [{}, {}, {}, {}, {}, {}, {}, {}, {}, { v := some (.vptr [.int .u8 u4m]) }] [] [0, 3] [1000000] [] ⟨[tP 0 1000000, tI 3 (band .i64 (wr.i64 ((band .i64 (bxor .i64 (bshr .i64 (wr.i64 ((wr.i64 (ub.gH * 6364136223846793005)) + 1442695040888963407)) 33) (bshr .i64 (wr.i64 ((wr.i64 (ub.gH * 6364136223846793005)) + 1442695040888963407)) 45)) 255) + (wr.i64 u4m))) 255)], [bC 1000000 [.sl (List.map cI.u8 ub.gB), aI ub.gI, aI (wr.i64 ((wr.i64 (ub.gH * 6364136223846793005)) + 1442695040888963407))]], []⟩ _ (by kernel_rfl) (fun X => by kernel_rfl) (.cons (at_obl (c := cI.u8) rfl cI.u8_len h6) (.cons (len_ok 1 [.int .u8 u4m]) .nil)) ?_
    refine Wc.r0 ⟨[tI 3 (band .i64 (wr.i64 ((band .i64 (bxor .i64 (bshr .i64 (wr.i64 ((wr.i64 (ub.gH * 6364136223846793005)) + 1442695040888963407)) 33) (bshr .i64 (wr.i64 ((wr.i64 (ub.gH * 6364136223846793005)) + 1442695040888963407)) 45)) 255) + (wr.i64 u4m))) 255)], [bC 1000000 [.sl (List.map cI.u8 ub.gB), aI (wr.i64 (ub.gI + 1)), aI (wr.i64 ((wr.i64 (ub.gH * 6364136223846793005)) + 1442695040888963407))]], []⟩ ?_
    apply Wc.seq
    refine Wc.r0 ⟨[tI 2 (band .i64 (wr.i64 ((band .i64 (bxor .i64 (bshr .i64 (wr.i64 ((wr.i64 (ub.gH * 6364136223846793005)) + 1442695040888963407)) 33) (bshr .i64 (wr.i64 ((wr.i64 (ub.gH * 6364136223846793005)) + 1442695040888963407)) 45)) 255) + (wr.i64 u4m))) 255)], [bC 1000000 [.sl (List.map cI.u8 ub.gB), aI (wr.i64 (ub.gI + 1)), aI (wr.i64 ((wr.i64 (ub.gH * 6364136223846793005)) + 1442695040888963407))]], []⟩ ?_
    obtain rfl := Option.some.inj h; exact Wc.ret dn
  · refine Wc.cF h5 ?_
    refine Wc.fx [] ⟨[tI 3 (band .i64 (bxor .i64 (bshr .i64 (wr.i64 ((wr.i64 (ub.gH * 6364136223846793005)) + 1442695040888963407)) 33) (bshr .i64 (wr.i64 ((wr.i64 (ub.gH * 6364136223846793005)) + 1442695040888963407)) 45)) 255)], [bC 1000000 [.sl (List.map cI.u8 ub.gB), aI ub.gI, aI (wr.i64 ((wr.i64 (ub.gH * 6364136223846793005)) + 1442695040888963407))]], []⟩ ?_
    refine Wc.skip ?_
    apply Wc.seq
    refine Wc.r0 ⟨[tI 2 (band .i64 (bxor .i64 (bshr .i64 (wr.i64 ((wr.i64 (ub.gH * 6364136223846793005)) + 1442695040888963407)) 33) (bshr .i64 (wr.i64 ((wr.i64 (ub.gH * 6364136223846793005)) + 1442695040888963407)) 45)) 255)], [bC 1000000 [.sl (List.map cI.u8 ub.gB), aI ub.gI, aI (wr.i64 ((wr.i64 (ub.gH * 6364136223846793005)) + 1442695040888963407))]], []⟩ ?_
    obtain rfl := Option.some.inj h; exact Wc.ret dn

def pspec_l01Below (k : Nat) (u25 : GL01Cur) (zj : Int) : Option (GL01Cur × Int) :=
  if (decide (zj ≤ 0)) = true then
    some (u25, 0)
  else
    if (decide (zj ≤ 256)) = true then
      (pspec_l01Byte k u25).bind fun u4n =>
      if (zj : Int) ≠ 0 then
        some (u4n.1, Int.tmod u4n.2 zj)
      else none
    else
      (pspec_l01Byte k u25).bind fun u2k =>
      (pspec_l01Byte k u2k.1).bind fun u2y =>
      (pspec_l01Byte k u2y.1).bind fun u3h =>
      (pspec_l01Byte k u3h.1).bind fun u3i =>
      if (zj : Int) ≠ 0 then
        some (u3i.1, Int.tmod (wr.i64 ((wr.i64 ((wr.i64 ((wr.i64 (u2k.2 * 16777216)) + (wr.i64 (u2y.2 * 65536)))) + (wr.i64 (u3h.2 * 256)))) + u3i.2)) zj)
      else none
theorem cspec_l01Below {k : Nat} {u25 : GL01Cur} {zj : Int} {r : GL01Cur × Int} (h : pspec_l01Below k u25 zj = some r) : FnO Try.prog 49 [.p (GL01Cur.q u25) [], .v (aI zj) []] (.v (aI r.2) []) [(0, .p (GL01Cur.q r.1) [])] := by
  refine FnO.o2 Try.func49 (rfl : Try.f49.body = some _) ?_
  intro w0 X0 Fin pv0 pb gt
  unfold pspec_l01Below at h
  apply Wc.seq
  refine Wc.r0 ⟨[tP 0 1000000, tI 1 zj], [bC 1000000 (GL01Cur.q u25)], []⟩ ?_
  apply Wc.seq
  apply Wc.seq
  refine Wc.r0 ⟨[tP 0 1000000, tI 1 zj, tB 10 (decide (zj ≤ 0))], [bC 1000000 (GL01Cur.q u25)], []⟩ ?_
  rcases oif h with ⟨h7, h⟩ | ⟨h7, h⟩
  · refine Wc.cT h7 ?_
    apply Wc.seq
    refine Wc.r0 ⟨[tI 4 0], [bC 1000000 (GL01Cur.q u25)], []⟩ ?_
    obtain rfl := Option.some.inj h; exact Wc.ret dn
  · refine Wc.cF h7 ?_
    refine Wc.fx [] ⟨[tP 0 1000000, tI 1 zj], [bC 1000000 (GL01Cur.q u25)], []⟩ ?_
    refine Wc.skip ?_
    apply Wc.seq
    apply Wc.seq
    refine Wc.r0 ⟨[tP 0 1000000, tI 1 zj, tB 12 (decide (zj ≤ 256))], [bC 1000000 (GL01Cur.q u25)], []⟩ ?_
    rcases oif h with ⟨h8, h⟩ | ⟨h8, h⟩
    · refine Wc.cT h8 ?_
      apply Wc.seq
      obtain ⟨u4n, h9, h⟩ := obind h
      obtain ⟨h10, h⟩ := oguard h
      refine Wc.r2 [{}, { r := some (.v (aI u4n.2) []), outs := [(0, .p (GL01Cur.q u4n.1) [])] }] ⟨[tI 4 (Int.tmod u4n.2 zj)], [bC 1000000 (GL01Cur.q u4n.1)], []⟩ (.cons (cspec_l01Byte h9) (.cons h10 .nil)) ?_
      obtain rfl := Option.some.inj h; exact Wc.ret dn
    · refine Wc.cF h8 ?_
      refine Wc.fx [] ⟨[tP 0 1000000, tI 1 zj], [bC 1000000 (GL01Cur.q u25)], []⟩ ?_
      refine Wc.skip ?_
      apply Wc.seq
      obtain ⟨u2k, h11, h⟩ := obind h
      refine Wc.r2 [{}, { r := some (.v (aI u2k.2) []), outs := [(0, .p (GL01Cur.q u2k.1) [])] }] ⟨[tP 0 1000000, tI 1 zj, tI 5 u2k.2], [bC 1000000 (GL01Cur.q u2k.1)], []⟩ (.cons (cspec_l01Byte h11) .nil) ?_
      apply Wc.seq
      obtain ⟨u2y, h12, h⟩ := obind h
      refine Wc.r2 [{}, { r := some (.v (aI u2y.2) []), outs := [(0, .p (GL01Cur.q u2y.1) [])] }] ⟨[tP 0 1000000, tI 1 zj, tI 5 u2k.2, tI 6 u2y.2], [bC 1000000 (GL01Cur.q u2y.1)], []⟩ (.cons (cspec_l01Byte h12) .nil) ?_
      apply Wc.seq
      obtain ⟨u3h, h13, h⟩ := obind h
      refine Wc.r2 [{}, { r := some (.v (aI u3h.2) []), outs := [(0, .p (GL01Cur.q u3h.1) [])] }] ⟨[tP 0 1000000, tI 1 zj, tI 5 u2k.2, tI 6 u2y.2, tI 7 u3h.2], [bC 1000000 (GL01Cur.q u3h.1)], []⟩ (.cons (cspec_l01Byte h13) .nil) ?_
      apply Wc.seq
      obtain ⟨u3i, h14, h⟩ := obind h
      refine Wc.r2 [{}, { r := some (.v (aI u3i.2) []), outs := [(0, .p (GL01Cur.q u3i.1) [])] }] ⟨[tI 1 zj, tI 5 u2k.2, tI 6 u2y.2, tI 7 u3h.2, tI 8 u3i.2], [bC 1000000 (GL01Cur.q u3i.1)], []⟩ (.cons (cspec_l01Byte h14) .nil) ?_
      apply Wc.seq
      obtain ⟨h15, h⟩ := oguard h
      refine Wc.r2 [] ⟨[tI 4 (Int.tmod (wr.i64 ((wr.i64 ((wr.i64 ((wr.i64 (u2k.2 * 16777216)) + (wr.i64 (u2y.2 * 65536)))) + (wr.i64 (u3h.2 * 256)))) + u3i.2)) zj)], [bC 1000000 (GL01Cur.q u3i.1)], []⟩ (.cons h15 .nil) ?_
      obtain rfl := Option.some.inj h; exact Wc.ret dn

def pspec_l01PickInt (k : Nat) (u7p : GL01Cur) (u48 : List Int) : Option (GL01Cur × Int) :=
  (pspec_l01Below k u7p (u48.length : Int)).bind fun u5d =>
  (at' u48 u5d.2).bind fun u7q =>
  some (u5d.1, u7q)
theorem cspec_l01PickInt {k : Nat} {u7p : GL01Cur} {u48 : List Int} {r : GL01Cur × Int} (h : pspec_l01PickInt k u7p u48 = some r) : FnO Try.prog 31 [.p (GL01Cur.q u7p) [], .v (.sl (List.map cI.i64 u48)) []] (.v (aI r.2) []) [(0, .p (GL01Cur.q r.1) [])] := by
  refine FnO.o2 Try.func31 (rfl : Try.f31.body = some _) ?_
  intro w0 X0 Fin pv0 pb gt
  unfold pspec_l01PickInt at h
  apply Wc.seq
  refine Wc.r0 ⟨[tP 0 1000000, tV 1 (.sl (List.map cI.i64 u48))], [bC 1000000 (GL01Cur.q u7p)], []⟩ ?_
  apply Wc.seq
  obtain ⟨u5d, h16, h⟩ := obind h
  obtain ⟨u7q, h17, h⟩ := obind h
  refine Wc.r2 [{}, {}, {}, { v := some (aI (u48.length : Int)) }, { r := some (.v (aI u5d.2) []), outs := [(0, .p (GL01Cur.q u5d.1) [])] }, { v := some (.vptr [aI u7q]) }] ⟨[tI 4 u7q], [bC 1000000 (GL01Cur.q u5d.1)], []⟩ (.cons (len_obl cI.i64 u48) (.cons (cspec_l01Below h16) (.cons (at_obl (c := cI.i64) rfl cI.i64_len h17) (.cons (len_ok 1 [aI u7q]) .nil)))) ?_
  obtain rfl := Option.some.inj h; exact Wc.ret dn

def pspec_l03Atom (k : Nat) (u5e : ByteArray) : Option GTerm :=
  some (GTerm.mk 2 u5e 0 [])
theorem cspec_l03Atom {k : Nat} {u5e : ByteArray} {r : GTerm} (h : pspec_l03Atom k u5e = some r) : FnO Try.prog 37 [.v (.str u5e) []] (.v (.agg (GTerm.q r)) [(3, .app 26)]) [] := by
  refine FnO.o2 Try.func37 (rfl : Try.f37.body = some _) ?_
  intro w0 X0 Fin pv0 pb gt
  unfold pspec_l03Atom at h
  apply Wc.seq
  refine Wc.r0 ⟨[tS 0 u5e, tP 2 2], [(2, .cells GTerm.z [(3, .app 26)])], []⟩ ?_
  apply Wc.seq
  refine Wc.r1 [{}, {}, { tk := [4] }] ⟨[tP 2 2], [(2, .cells [aI 2, .str u5e, aI 0, .sl (List.map GTerm.c [])] [(3, .app 26)])], []⟩ ?_
  obtain rfl := Option.some.inj h; exact Wc.ret dn

def pspec_l03Var (k : Nat) (u5f : Int) : Option GTerm :=
  some (GTerm.mk 1 (bs []) u5f [])
theorem cspec_l03Var {k : Nat} {u5f : Int} {r : GTerm} (h : pspec_l03Var k u5f = some r) : FnO Try.prog 54 [.v (aI u5f) []] (.v (.agg (GTerm.q r)) [(3, .app 26)]) [] := by
  refine FnO.o2 Try.func54 (rfl : Try.f54.body = some _) ?_
  intro w0 X0 Fin pv0 pb gt
  unfold pspec_l03Var at h
  apply Wc.seq
  refine Wc.r0 ⟨[tI 0 u5f, tP 2 2], [(2, .cells GTerm.z [(3, .app 26)])], []⟩ ?_
  apply Wc.seq
  refine Wc.r1 [{}, {}, { tk := [4] }] ⟨[tP 2 2], [(2, .cells [aI 1, .str (bs []), aI u5f, .sl (List.map GTerm.c [])] [(3, .app 26)])], []⟩ ?_
  obtain rfl := Option.some.inj h; exact Wc.ret dn

def pspec_l01Pick (k : Nat) (u7r : GL01Cur) (u49 : List ByteArray) : Option (GL01Cur × ByteArray) :=
  (pspec_l01Below k u7r (u49.length : Int)).bind fun u5g =>
  (at' u49 u5g.2).bind fun u7s =>
  some (u5g.1, u7s)
theorem cspec_l01Pick {k : Nat} {u7r : GL01Cur} {u49 : List ByteArray} {r : GL01Cur × ByteArray} (h : pspec_l01Pick k u7r u49 = some r) : FnO Try.prog 55 [.p (GL01Cur.q u7r) [], .v (.sl (List.map cS u49)) []] (.v (.str r.2) []) [(0, .p (GL01Cur.q r.1) [])] := by
  refine FnO.o2 Try.func55 (rfl : Try.f55.body = some _) ?_
  intro w0 X0 Fin pv0 pb gt
  unfold pspec_l01Pick at h
  apply Wc.seq
  refine Wc.r0 ⟨[tP 0 1000000, tV 1 (.sl (List.map cS u49))], [bC 1000000 (GL01Cur.q u7r)], []⟩ ?_
  apply Wc.seq
  obtain ⟨u5g, h18, h⟩ := obind h
  obtain ⟨u7s, h19, h⟩ := obind h
  refine Wc.r2 [{}, {}, {}, { v := some (aI (u49.length : Int)) }, { r := some (.v (aI u5g.2) []), outs := [(0, .p (GL01Cur.q u5g.1) [])] }, { v := some (.vptr [.str u7s]) }] ⟨[tS 4 u7s], [bC 1000000 (GL01Cur.q u5g.1)], []⟩ (.cons (len_obl cS u49) (.cons (cspec_l01Below h18) (.cons (at_obl (c := cS) rfl cS_len h19) (.cons (len_ok 1 [.str u7s]) .nil)))) ?_
  obtain rfl := Option.some.inj h; exact Wc.ret dn

def pspec_l03Num (k : Nat) (u5h : Int) : Option GTerm :=
  some (GTerm.mk 3 (bs []) u5h [])
theorem cspec_l03Num {k : Nat} {u5h : Int} {r : GTerm} (h : pspec_l03Num k u5h = some r) : FnO Try.prog 56 [.v (aI u5h) []] (.v (.agg (GTerm.q r)) [(3, .app 26)]) [] := by
  refine FnO.o2 Try.func56 (rfl : Try.f56.body = some _) ?_
  intro w0 X0 Fin pv0 pb gt
  unfold pspec_l03Num at h
  apply Wc.seq
  refine Wc.r0 ⟨[tI 0 u5h, tP 2 2], [(2, .cells GTerm.z [(3, .app 26)])], []⟩ ?_
  apply Wc.seq
  refine Wc.r1 [{}, {}, { tk := [4] }] ⟨[tP 2 2], [(2, .cells [aI 3, .str (bs []), aI u5h, .sl (List.map GTerm.c [])] [(3, .app 26)])], []⟩ ?_
  obtain rfl := Option.some.inj h; exact Wc.ret dn

def pspec_l03Two (k : Nat) (u5i : ByteArray) (u3j : GTerm) (u3k : GTerm) : Option GTerm :=
  some (GTerm.mk 4 u5i 0 [u3j, u3k])
theorem cspec_l03Two {k : Nat} {u5i : ByteArray} {u3j : GTerm} {u3k : GTerm} {r : GTerm} (h : pspec_l03Two k u5i u3j u3k = some r) : FnO Try.prog 57 [.v (.str u5i) [], .v (.agg (GTerm.q u3j)) [], .v (.agg (GTerm.q u3k)) []] (.v (.agg (GTerm.q r)) [(3, .app 26)]) [] := by
  refine FnO.o2 Try.func57 (rfl : Try.f57.body = some _) ?_
  intro w0 X0 Fin pv0 pb gt
  unfold pspec_l03Two at h
  apply Wc.seq
  refine Wc.r0 ⟨[tS 0 u5i, tP 4 4, tP 5 5, tP 6 6], [bC 4 (GTerm.q u3j), bC 5 (GTerm.q u3k), (6, .cells GTerm.z [(3, .app 26)])], []⟩ ?_
  apply Wc.seq
  refine Wc.r2 [{}, {}, {}, { c := some (List.map GTerm.c [u3j, u3k]) }, { tk := [10] }, { tk := [11] }] ⟨[tP 6 6], [(6, .cells [aI 4, .str u5i, aI 0, .sl (List.map GTerm.c [u3j, u3k])] [(3, .app 26)])], []⟩ (.cons (cl_cons (c := GTerm.c) (x := u3j) (GTerm.c_eq u3j) (cl_cons (c := GTerm.c) (x := u3k) (GTerm.c_eq u3k) (cl_nil GTerm.c))) .nil) ?_
  obtain rfl := Option.some.inj h; exact Wc.ret dn

def pspec_l03Made_L2 (k : Nat) (rspec_l03Made : GL01Cur → Int → Option (GL01Cur × GTerm)) (uo : Int) : Nat → Int → GTerm → GL01Cur → Option (Out (GL01Cur × GTerm) (GTerm × GL01Cur))
  | 0, _, _, _ => none
  | m + 1, u0v, va, u7t =>
    (pspec_l01Below k u7t 3).bind fun u1c =>
    if (decide (u0v < (wr.i64 (1 + u1c.2)))) = true then
      if (decide ((va.gKids.length : Int) < 5)) = true then
        (rspec_l03Made u1c.1 (wr.i64 (uo - 1))).bind fun u05 =>
        if va.gKids.length + [u05.2].length ≤ 1073741824 then
          pspec_l03Made_L2 k rspec_l03Made uo m (wr.i64 (u0v + 1)) (GTerm.mk va.gKind va.gName va.gNum (va.gKids ++ [u05.2])) u05.1
        else none
      else
        pspec_l03Made_L2 k rspec_l03Made uo m (wr.i64 (u0v + 1)) va u1c.1
    else
      some (.done (va, u1c.1))
def pspec_l03Made_J1 (k : Nat) (rspec_l03Made : GL01Cur → Int → Option (GL01Cur × GTerm)) (vj : GL01Cur × Int) (uo : Int) (u00 : Int) : Option (GL01Cur × GTerm) :=
  if (decide (u00 < 2)) = true then
    (pspec_l01Below k vj.1 4).bind fun u5j =>
    (pspec_l03Var k u5j.2).bind fun uai =>
    some (u5j.1, uai)
  else
    if (decide (u00 < 4)) = true then
      if 0 ≤ (0 : Int) ∧ (0 : Int) ≤ 1 ∧ 1 ≤ ((bs [120, 32, 121]).size : Int) then
        (pspec_l01Pick k vj.1 [(bs [97]), (bs [98]), (bs [91, 93]), (bs [43]), (bs [66, 105, 103]), (bs [120, 32, 121]).extract ((0 : Int) : Int).toNat (1 : Int).toNat, (bs [58, 45]), (bs [61, 46, 46])]).bind fun u5k =>
        (pspec_l03Atom k u5k.2).bind fun uaj =>
        some (u5k.1, uaj)
      else none
    else
      if (decide (u00 < 6)) = true then
        (pspec_l01PickInt k vj.1 [0, 1, -7, 999999999]).bind fun u5l =>
        (pspec_l03Num k u5l.2).bind fun uak =>
        some (u5l.1, uak)
      else
        if (u00 == 6) = true then
          (rspec_l03Made vj.1 (wr.i64 (uo - 1))).bind fun u7u =>
          (rspec_l03Made u7u.1 (wr.i64 (uo - 1))).bind fun u5m =>
          (pspec_l03Two k (bs [46]) u7u.2 u5m.2).bind fun ual =>
          some (u5m.1, ual)
        else
          if (u00 == 7) = true then
            (pspec_l01Pick k vj.1 [(bs [43]), (bs [61]), (bs [44]), (bs [102]), (bs [59])]).bind fun u7v =>
            (rspec_l03Made u7v.1 (wr.i64 (uo - 1))).bind fun u7w =>
            (rspec_l03Made u7w.1 (wr.i64 (uo - 1))).bind fun u5n =>
            (pspec_l03Two k u7v.2 u7w.2 u5n.2).bind fun uam =>
            some (u5n.1, uam)
          else
            (pspec_l01Pick k vj.1 [(bs [102]), (bs [103]), (bs [45]), (bs [91, 93])]).bind fun u3l =>
            (pspec_l03Made_L2 k rspec_l03Made uo k 0 (GTerm.mk 4 u3l.2 0 []) u3l.1).bind fun out2 => match out2 with
            | .ret r => some r
            | .done (u5o, u5p) =>
              some (u5p, u5o)
mutual
def pspec_l03Made : Nat → GL01Cur → Int → Option (GL01Cur × GTerm)
  | 0, _, _ => none
  | k + 1, u2z, uo =>
    (pspec_l01Below k u2z 10).bind fun vj =>
    if (decide (uo ≤ 0)) = true then
      if (6 : Int) ≠ 0 then
        pspec_l03Made_J1 k (pspec_l03Made k) vj uo (Int.tmod vj.2 6)
      else none
    else
      pspec_l03Made_J1 k (pspec_l03Made k) vj uo vj.2
end
set_option maxHeartbeats 4000000 in
theorem all_pspec_l03Made : ∀ k : Nat, (∀ {u2z : GL01Cur} {uo : Int} {r : GL01Cur × GTerm}, pspec_l03Made k u2z uo = some r → FnO Try.prog 35 [.p (GL01Cur.q u2z) [], .v (aI uo) []] (.v (.agg (GTerm.q r.2)) [(3, .app 26)]) [(0, .p (GL01Cur.q r.1) [])]) := by
  intro k
  induction k with
  | zero =>
    · intro u2z uo r h
      exact (onone (by rw [pspec_l03Made] at h; exact h)).elim
  | succ k ih =>
    have ih_pspec_l03Made := @ih
    · intro u2z uo r h
      rw [pspec_l03Made] at h
      refine FnO.o2 Try.func35 (rfl : Try.f35.body = some _) ?_
      intro w0 X0 Fin pv0 pb gt
      apply Wc.seq
      refine Wc.r0 ⟨[tP 0 1000000, tI 1 uo, tP 4 4], [(4, .cells GTerm.z [(3, .app 26)]), bC 1000000 (GL01Cur.q u2z)], []⟩ ?_
      apply Wc.seq
      obtain ⟨vj, h49, h⟩ := obind h
      refine Wc.r2 [{}, { r := some (.v (aI vj.2) []), outs := [(0, .p (GL01Cur.q vj.1) [])] }] ⟨[tP 0 1000000, tI 1 uo, tP 4 4, tI 5 vj.2], [(4, .cells GTerm.z [(3, .app 26)]), bC 1000000 (GL01Cur.q vj.1)], []⟩ (.cons (cspec_l01Below h49) .nil) ?_
      refine Wc.seqJ (fun st => ∃ (u00 : Int), st = ⟨[tP 0 1000000, tI 1 uo, tP 4 4, tI 5 u00], [(4, .cells GTerm.z [(3, .app 26)]), bC 1000000 (GL01Cur.q vj.1)], []⟩ ∧ pspec_l03Made_J1 k (pspec_l03Made k) vj uo u00 = some r) ?_ ?_
      · apply Wc.seq
        refine Wc.r0 ⟨[tP 0 1000000, tI 1 uo, tP 4 4, tI 5 vj.2, tB 11 (decide (uo ≤ 0))], [(4, .cells GTerm.z [(3, .app 26)]), bC 1000000 (GL01Cur.q vj.1)], []⟩ ?_
        rcases oif h with ⟨h76, h⟩ | ⟨h76, h⟩
        · refine Wc.cT h76 ?_
          obtain ⟨h77, h⟩ := oguard h
          refine Wc.r2 [] ⟨[tP 0 1000000, tI 1 uo, tP 4 4, tI 5 (Int.tmod vj.2 6)], [(4, .cells GTerm.z [(3, .app 26)]), bC 1000000 (GL01Cur.q vj.1)], []⟩ (.cons h77 .nil) ?_
          exact ⟨_, rfl, h⟩
        · refine Wc.cF h76 ?_
          refine Wc.fx [] ⟨[tP 0 1000000, tI 1 uo, tP 4 4, tI 5 vj.2], [(4, .cells GTerm.z [(3, .app 26)]), bC 1000000 (GL01Cur.q vj.1)], []⟩ ?_
          refine Wc.skip ?_
          exact ⟨_, rfl, h⟩
      · rintro st ⟨u00, rfl, h⟩
        apply Wc.seq
        refine Wc.block ?_
        apply Wc.seq
        refine Wc.r0 ⟨[tP 0 1000000, tI 1 uo, tP 4 4, tI 5 u00, tB 14 (decide (u00 < 2))], [(4, .cells GTerm.z [(3, .app 26)]), bC 1000000 (GL01Cur.q vj.1)], []⟩ ?_
        rcases oif h with ⟨h50, h⟩ | ⟨h50, h⟩
        · refine Wc.cT h50 ?_
          apply Wc.seq
          obtain ⟨u5j, h51, h⟩ := obind h
          obtain ⟨uai, h52, h⟩ := obind h
          refine Wc.r2 [{}, { r := some (.v (aI u5j.2) []), outs := [(0, .p (GL01Cur.q u5j.1) [])] }, { r := some (.v (.agg (GTerm.q uai)) [(3, .app 26)]) }, { tk := [19] }] ⟨[tP 4 4], [(4, .cells (GTerm.q uai) [(3, .app 26)]), bC 1000000 (GL01Cur.q u5j.1)], []⟩ (.cons (cspec_l01Below h51) (.cons (cspec_l03Var h52) .nil)) ?_
          obtain rfl := Option.some.inj h; exact Wc.ret dn
        · refine Wc.cF h50 ?_
          apply Wc.seq
          refine Wc.r0 ⟨[tP 0 1000000, tI 1 uo, tP 4 4, tI 5 u00, tB 20 (decide (u00 < 4))], [(4, .cells GTerm.z [(3, .app 26)]), bC 1000000 (GL01Cur.q vj.1)], []⟩ ?_
          rcases oif h with ⟨h53, h⟩ | ⟨h53, h⟩
          · refine Wc.cT h53 ?_
            apply Wc.seq
            obtain ⟨h54, h⟩ := oguard h
            obtain ⟨u5k, h55, h⟩ := obind h
            obtain ⟨uaj, h56, h⟩ := obind h
            refine Wc.r2 [{}, {}, { c := some (List.map cS [(bs [97]), (bs [98]), (bs [91, 93]), (bs [43]), (bs [66, 105, 103]), (bs [120, 32, 121]).extract ((0 : Int) : Int).toNat (1 : Int).toNat, (bs [58, 45]), (bs [61, 46, 46])]) }, { r := some (.v (.str u5k.2) []), outs := [(0, .p (GL01Cur.q u5k.1) [])] }, { r := some (.v (.agg (GTerm.q uaj)) [(3, .app 26)]) }, { tk := [27] }] ⟨[tP 4 4], [(4, .cells (GTerm.q uaj) [(3, .app 26)]), bC 1000000 (GL01Cur.q u5k.1)], []⟩ (.cons h54 (.cons (cl_cons (c := cS) (x := (bs [97])) rfl (cl_cons (c := cS) (x := (bs [98])) rfl (cl_cons (c := cS) (x := (bs [91, 93])) rfl (cl_cons (c := cS) (x := (bs [43])) rfl (cl_cons (c := cS) (x := (bs [66, 105, 103])) rfl (cl_cons (c := cS) (x := (bs [120, 32, 121]).extract ((0 : Int) : Int).toNat (1 : Int).toNat) rfl (cl_cons (c := cS) (x := (bs [58, 45])) rfl (cl_cons (c := cS) (x := (bs [61, 46, 46])) rfl (cl_nil cS))))))))) (.cons (cspec_l01Pick h55) (.cons (cspec_l03Atom h56) .nil)))) ?_
            obtain rfl := Option.some.inj h; exact Wc.ret dn
          · refine Wc.cF h53 ?_
            apply Wc.seq
            refine Wc.r0 ⟨[tP 0 1000000, tI 1 uo, tP 4 4, tI 5 u00, tB 28 (decide (u00 < 6))], [(4, .cells GTerm.z [(3, .app 26)]), bC 1000000 (GL01Cur.q vj.1)], []⟩ ?_
            rcases oif h with ⟨h57, h⟩ | ⟨h57, h⟩
            · refine Wc.cT h57 ?_
              apply Wc.seq
              obtain ⟨u5l, h58, h⟩ := obind h
              obtain ⟨uak, h59, h⟩ := obind h
              refine Wc.r2 [{}, { c := some (List.map cI.i64 [0, 1, -7, 999999999]) }, { r := some (.v (aI u5l.2) []), outs := [(0, .p (GL01Cur.q u5l.1) [])] }, { r := some (.v (.agg (GTerm.q uak)) [(3, .app 26)]) }, { tk := [34] }] ⟨[tP 4 4], [(4, .cells (GTerm.q uak) [(3, .app 26)]), bC 1000000 (GL01Cur.q u5l.1)], []⟩ (.cons (cl_cons (c := cI.i64) (x := 0) rfl (cl_cons (c := cI.i64) (x := 1) rfl (cl_cons (c := cI.i64) (x := -7) rfl (cl_cons (c := cI.i64) (x := 999999999) rfl (cl_nil cI.i64))))) (.cons (cspec_l01PickInt h58) (.cons (cspec_l03Num h59) .nil))) ?_
              obtain rfl := Option.some.inj h; exact Wc.ret dn
            · refine Wc.cF h57 ?_
              apply Wc.seq
              refine Wc.r0 ⟨[tP 0 1000000, tI 1 uo, tP 4 4, tI 5 u00, tB 35 (u00 == 6)], [(4, .cells GTerm.z [(3, .app 26)]), bC 1000000 (GL01Cur.q vj.1)], []⟩ ?_
              rcases oif h with ⟨h60, h⟩ | ⟨h60, h⟩
              · refine Wc.cT h60 ?_
                apply Wc.seq
                obtain ⟨u7u, h61, h⟩ := obind h
                obtain ⟨u5m, h62, h⟩ := obind h
                obtain ⟨ual, h63, h⟩ := obind h
                refine Wc.r2 [{}, {}, {}, { r := some (.v (.agg (GTerm.q u7u.2)) [(3, .app 26)]), outs := [(0, .p (GL01Cur.q u7u.1) [])] }, {}, {}, {}, { r := some (.v (.agg (GTerm.q u5m.2)) [(3, .app 26)]), outs := [(0, .p (GL01Cur.q u5m.1) [])] }, { r := some (.v (.agg (GTerm.q ual)) [(3, .app 26)]) }, { tk := [46] }] ⟨[tP 4 4], [(4, .cells (GTerm.q ual) [(3, .app 26)]), bC 1000000 (GL01Cur.q u5m.1)], []⟩ (.cons (ih_pspec_l03Made h61) (.cons (ih_pspec_l03Made h62) (.cons (cspec_l03Two h63) .nil))) ?_
                obtain rfl := Option.some.inj h; exact Wc.ret dn
              · refine Wc.cF h60 ?_
                apply Wc.seq
                refine Wc.r0 ⟨[tP 0 1000000, tI 1 uo, tP 4 4, tB 47 (u00 == 7)], [(4, .cells GTerm.z [(3, .app 26)]), bC 1000000 (GL01Cur.q vj.1)], []⟩ ?_
                rcases oif h with ⟨h64, h⟩ | ⟨h64, h⟩
                · refine Wc.cT h64 ?_
                  apply Wc.seq
                  obtain ⟨u7v, h65, h⟩ := obind h
                  obtain ⟨u7w, h66, h⟩ := obind h
                  obtain ⟨u5n, h67, h⟩ := obind h
                  obtain ⟨uam, h68, h⟩ := obind h
                  refine Wc.r2 [{}, { c := some (List.map cS [(bs [43]), (bs [61]), (bs [44]), (bs [102]), (bs [59])]) }, { r := some (.v (.str u7v.2) []), outs := [(0, .p (GL01Cur.q u7v.1) [])] }, {}, {}, {}, { r := some (.v (.agg (GTerm.q u7w.2)) [(3, .app 26)]), outs := [(0, .p (GL01Cur.q u7w.1) [])] }, {}, {}, {}, { r := some (.v (.agg (GTerm.q u5n.2)) [(3, .app 26)]), outs := [(0, .p (GL01Cur.q u5n.1) [])] }, { r := some (.v (.agg (GTerm.q uam)) [(3, .app 26)]) }, { tk := [61] }] ⟨[tP 4 4], [(4, .cells (GTerm.q uam) [(3, .app 26)]), bC 1000000 (GL01Cur.q u5n.1)], []⟩ (.cons (cl_cons (c := cS) (x := (bs [43])) rfl (cl_cons (c := cS) (x := (bs [61])) rfl (cl_cons (c := cS) (x := (bs [44])) rfl (cl_cons (c := cS) (x := (bs [102])) rfl (cl_cons (c := cS) (x := (bs [59])) rfl (cl_nil cS)))))) (.cons (cspec_l01Pick h65) (.cons (ih_pspec_l03Made h66) (.cons (ih_pspec_l03Made h67) (.cons (cspec_l03Two h68) .nil))))) ?_
                  obtain rfl := Option.some.inj h; exact Wc.ret dn
                · refine Wc.cF h64 ?_
                  refine Wc.fx [] ⟨[tP 0 1000000, tI 1 uo, tP 4 4], [(4, .cells GTerm.z [(3, .app 26)]), bC 1000000 (GL01Cur.q vj.1)], []⟩ ?_
                  refine Wc.skip ?_
                  apply Wc.seq
                  obtain ⟨u3l, h69, h⟩ := obind h
                  refine Wc.r2 [{}, { c := some (List.map cS [(bs [102]), (bs [103]), (bs [45]), (bs [91, 93])]) }, { r := some (.v (.str u3l.2) []), outs := [(0, .p (GL01Cur.q u3l.1) [])] }, {}, {}, { tk := [65] }] ⟨[tP 0 1000000, tI 1 uo, tP 4 4, tP 6 6], [(4, .cells GTerm.z [(3, .app 26)]), (6, .cells [aI 4, .str u3l.2, aI 0, .sl (List.map GTerm.c [])] [(3, .app 26)]), bC 1000000 (GL01Cur.q u3l.1)], []⟩ (.cons (cl_cons (c := cS) (x := (bs [102])) rfl (cl_cons (c := cS) (x := (bs [103])) rfl (cl_cons (c := cS) (x := (bs [45])) rfl (cl_cons (c := cS) (x := (bs [91, 93])) rfl (cl_nil cS))))) (.cons (cspec_l01Pick h69) .nil)) ?_
                  apply Wc.seq
                  apply Wc.seq
                  refine Wc.r0 ⟨[tP 0 1000000, tI 1 uo, tP 4 4, tP 6 6, tI 7 0], [(4, .cells GTerm.z [(3, .app 26)]), (6, .cells [aI 4, .str u3l.2, aI 0, .sl (List.map GTerm.c [])] [(3, .app 26)]), bC 1000000 (GL01Cur.q u3l.1)], []⟩ ?_
                  obtain ⟨out2, h70, h⟩ := obind h
                  refine Wc.lastJ (fun st => ∃ (u5o : GTerm) (u5p : GL01Cur), out2 = .done (u5o, u5p) ∧ st = ⟨[tP 4 4, tP 6 6], [(4, .cells GTerm.z [(3, .app 26)]), (6, .cells (GTerm.q u5o) [(3, .app 26)]), bC 1000000 (GL01Cur.q u5p)], []⟩) ?_ ?_
                  · refine Wc.block ?_
                    refine Wc.loop (fun m st => ∃ (u0v : Int) (va : GTerm) (u7t : GL01Cur), st = ⟨[tP 0 1000000, tI 1 uo, tP 4 4, tP 6 6, tI 7 u0v], [(4, .cells GTerm.z [(3, .app 26)]), (6, .cells (GTerm.q va) [(3, .app 26)]), bC 1000000 (GL01Cur.q u7t)], []⟩ ∧ pspec_l03Made_L2 k (pspec_l03Made k) uo m u0v va u7t = some out2) ?_ k ⟨_, _, _, rfl, h70⟩
                    rintro m st ⟨u0v, va, u7t, rfl, h70⟩
                    cases m with
                    | zero => exact (onone h70).elim
                    | succ m =>
                      apply Wc.seq
                      apply Wc.seq
                      obtain ⟨u1c, h71, h70⟩ := obind h70
                      refine Wc.r2 [{}, {}, { r := some (.v (aI u1c.2) []), outs := [(0, .p (GL01Cur.q u1c.1) [])] }] ⟨[tP 0 1000000, tI 1 uo, tP 4 4, tP 6 6, tI 7 u0v, tB 70 (decide (u0v < (wr.i64 (1 + u1c.2))))], [(4, .cells GTerm.z [(3, .app 26)]), (6, .cells (GTerm.q va) [(3, .app 26)]), bC 1000000 (GL01Cur.q u1c.1)], []⟩ (.cons (cspec_l01Below h71) .nil) ?_
                      rcases oif h70 with ⟨h72, h70⟩ | ⟨h72, h70⟩
                      · refine Wc.cT h72 ?_
                        refine Wc.fx [] ⟨[tP 0 1000000, tI 1 uo, tP 4 4, tP 6 6, tI 7 u0v], [(4, .cells GTerm.z [(3, .app 26)]), (6, .cells (GTerm.q va) [(3, .app 26)]), bC 1000000 (GL01Cur.q u1c.1)], []⟩ ?_
                        refine Wc.skip ?_
                        apply Wc.seq
                        refine Wc.block ?_
                        apply Wc.seq
                        refine Wc.r2 [{}, {}, { v := some (aI (va.gKids.length : Int)) }] ⟨[tP 0 1000000, tI 1 uo, tP 4 4, tP 6 6, tI 7 u0v, tB 76 (decide ((va.gKids.length : Int) < 5))], [(4, .cells GTerm.z [(3, .app 26)]), (6, .cells (GTerm.q va) [(3, .app 26)]), bC 1000000 (GL01Cur.q u1c.1)], []⟩ (.cons (len_obl GTerm.c va.gKids) .nil) ?_
                        rcases oif h70 with ⟨h73, h70⟩ | ⟨h73, h70⟩
                        · refine Wc.cT h73 ?_
                          obtain ⟨u05, h74, h70⟩ := obind h70
                          obtain ⟨h75, h70⟩ := oguard h70
                          refine Wc.draw hmix [{}, { md := 1 }, {}, {}, {}, { r := some (.v (.agg (GTerm.q u05.2)) [(3, .app 26)]), outs := [(0, .p (GL01Cur.q u05.1) [])] }, { c := some (List.map GTerm.c [u05.2]) }, { c := some (List.map GTerm.c (va.gKids ++ [u05.2])), tk := [78] }, {}, { tk := [84] }] [] [0, 1, 4, 6, 7] [4, 6, 1000000] [] ⟨[tP 0 1000000, tI 1 uo, tP 4 4, tP 6 6, tI 7 u0v], [(4, .cells GTerm.z [(3, .app 26)]), (6, .cells [aI va.gKind, .str va.gName, aI va.gNum, .sl (List.map GTerm.c (va.gKids ++ [u05.2]))] [(3, .app 26)]), bC 1000000 (GL01Cur.q u05.1)], []⟩ _ (by kernel_rfl) (fun X => by kernel_rfl) (.cons (ih_pspec_l03Made h74) (.cons (cl_cons (c := GTerm.c) (x := u05.2) (GTerm.c_eq u05.2) (cl_nil GTerm.c)) (.cons (app_re2 GTerm.c va.gKids [u05.2]) (.cons (app_leaf (c := GTerm.c) (ys := [u05.2]) GTerm.c_leaf) (.cons (app_obl2 (c := GTerm.c) (xs := va.gKids) (ys := [u05.2]) GTerm.c_len h75) .nil))))) ?_
                          refine Wc.r0 ⟨[tP 0 1000000, tI 1 uo, tP 4 4, tP 6 6, tI 7 (wr.i64 (u0v + 1))], [(4, .cells GTerm.z [(3, .app 26)]), (6, .cells [aI va.gKind, .str va.gName, aI va.gNum, .sl (List.map GTerm.c (va.gKids ++ [u05.2]))] [(3, .app 26)]), bC 1000000 (GL01Cur.q u05.1)], []⟩ ?_
                          exact ⟨_, Nat.lt_succ_self _, _, _, _, rfl, h70⟩
                        · refine Wc.cF h73 ?_
                          refine Wc.fx [] ⟨[tP 0 1000000, tI 1 uo, tP 4 4, tP 6 6, tI 7 u0v], [(4, .cells GTerm.z [(3, .app 26)]), (6, .cells (GTerm.q va) [(3, .app 26)]), bC 1000000 (GL01Cur.q u1c.1)], []⟩ ?_
                          refine Wc.skip ?_
                          refine Wc.r0 ⟨[tP 0 1000000, tI 1 uo, tP 4 4, tP 6 6, tI 7 (wr.i64 (u0v + 1))], [(4, .cells GTerm.z [(3, .app 26)]), (6, .cells (GTerm.q va) [(3, .app 26)]), bC 1000000 (GL01Cur.q u1c.1)], []⟩ ?_
                          exact ⟨_, Nat.lt_succ_self _, _, _, _, rfl, h70⟩
                      · refine Wc.cF h72 ?_
                        refine Wc.fx [] ⟨[tP 4 4, tP 6 6], [(4, .cells GTerm.z [(3, .app 26)]), (6, .cells (GTerm.q va) [(3, .app 26)]), bC 1000000 (GL01Cur.q u1c.1)], []⟩ ?_
                        refine Wc.exit ?_
                        obtain rfl := Option.some.inj h70
                        exact ⟨_, _, rfl, rfl⟩
                  · rintro st ⟨u5o, u5p, rfl, rfl⟩
                    apply Wc.seq
                    refine Wc.r1 [{ md := 1 }, { tk := [86] }] ⟨[tP 4 4], [(4, .cells (GTerm.q u5o) [(3, .app 26)]), bC 1000000 (GL01Cur.q u5p)], []⟩ ?_
                    obtain rfl := Option.some.inj h; exact Wc.ret dn
theorem cspec_l03Made {k : Nat} {u2z : GL01Cur} {uo : Int} {r : GL01Cur × GTerm} (h : pspec_l03Made k u2z uo = some r) : FnO Try.prog 35 [.p (GL01Cur.q u2z) [], .v (aI uo) []] (.v (.agg (GTerm.q r.2)) [(3, .app 26)]) [(0, .p (GL01Cur.q r.1) [])] := (all_pspec_l03Made k) h

def pspec_l03Count_L1 (k : Nat) (rspec_l03Count : GTerm → Int → Option Int) (z0 : GTerm) : Nat → Int → Int → Option (Out Int Int)
  | 0, _, _ => none
  | m + 1, u1d, u26 =>
    if (decide (u26 < (z0.gKids.length : Int))) = true then
      if (decide (u1d ≥ 0)) = true then
        (at' z0.gKids u26).bind fun u7x =>
        (rspec_l03Count u7x u1d).bind fun u7y =>
        pspec_l03Count_L1 k rspec_l03Count z0 m u7y (wr.i64 (u26 + 1))
      else
        some (.done u1d)
    else
      some (.done u1d)
mutual
def pspec_l03Count : Nat → GTerm → Int → Option Int
  | 0, _, _ => none
  | k + 1, z0, u27 =>
    (pspec_l03Count_L1 k (pspec_l03Count k) z0 k (wr.i64 (u27 - 1)) 0).bind fun out1 => match out1 with
    | .ret r => some r
    | .done u5q =>
      some u5q
end
theorem all_pspec_l03Count : ∀ k : Nat, (∀ {z0 : GTerm} {u27 : Int} {r : Int}, pspec_l03Count k z0 u27 = some r → FnO Try.prog 58 [.v (.agg (GTerm.q z0)) [], .v (aI u27) []] (.v (aI r) []) []) := by
  intro k
  induction k with
  | zero =>
    · intro z0 u27 r h
      exact (onone (by rw [pspec_l03Count] at h; exact h)).elim
  | succ k ih =>
    have ih_pspec_l03Count := @ih
    · intro z0 u27 r h
      rw [pspec_l03Count] at h
      refine FnO.o2 Try.func58 (rfl : Try.f58.body = some _) ?_
      intro w0 X0 Fin pv0 pb gt
      apply Wc.seq
      refine Wc.r0 ⟨[tI 1 u27, tP 2 2], [bC 2 (GTerm.q z0)], []⟩ ?_
      apply Wc.seq
      refine Wc.r0 ⟨[tI 1 (wr.i64 (u27 - 1)), tP 2 2], [bC 2 (GTerm.q z0)], []⟩ ?_
      apply Wc.seq
      apply Wc.seq
      refine Wc.r0 ⟨[tI 1 (wr.i64 (u27 - 1)), tP 2 2, tI 5 0], [bC 2 (GTerm.q z0)], []⟩ ?_
      obtain ⟨out1, h78, h⟩ := obind h
      refine Wc.lastJ (fun st => ∃ (u5q : Int), out1 = .done u5q ∧ st = ⟨[tI 1 u5q], [], []⟩) ?_ ?_
      · refine Wc.block ?_
        refine Wc.loop (fun m st => ∃ (u1d : Int) (u26 : Int), st = ⟨[tI 1 u1d, tP 2 2, tI 5 u26], [bC 2 (GTerm.q z0)], []⟩ ∧ pspec_l03Count_L1 k (pspec_l03Count k) z0 m u1d u26 = some out1) ?_ k ⟨_, _, rfl, h78⟩
        rintro m st ⟨u1d, u26, rfl, h78⟩
        cases m with
        | zero => exact (onone h78).elim
        | succ m =>
          apply Wc.seq
          apply Wc.seq
          rcases oif h78 with ⟨h79, h78⟩ | ⟨h79, h78⟩
          · refine Wc.r2 [{}, {}, {}, { v := some (aI (z0.gKids.length : Int)) }, {}, { re := some (.bool true) }] ⟨[tI 1 u1d, tP 2 2, tI 5 u26, tB 16 (decide (u1d ≥ 0))], [bC 2 (GTerm.q z0)], []⟩ (.cons (len_obl GTerm.c z0.gKids) (.cons (congrArg AV.bool h79) .nil)) ?_
            rcases oif h78 with ⟨h80, h78⟩ | ⟨h80, h78⟩
            · refine Wc.cT h80 ?_
              refine Wc.fx [] ⟨[tI 1 u1d, tP 2 2, tI 5 u26], [bC 2 (GTerm.q z0)], []⟩ ?_
              refine Wc.skip ?_
              apply Wc.seq
              refine Wc.block ?_
              obtain ⟨u7x, h81, h78⟩ := obind h78
              obtain ⟨u7y, h82, h78⟩ := obind h78
              refine Wc.r2 [{}, {}, {}, { v := some (.vptr (GTerm.q u7x)) }, {}, {}, { r := some (.v (aI u7y) []) }] ⟨[tI 1 u7y, tP 2 2, tI 5 u26], [bC 2 (GTerm.q z0)], []⟩ (.cons (at_obl (c := GTerm.c) (GTerm.c_eq u7x) GTerm.c_len h81) (.cons (len_ok 4 (GTerm.q u7x)) (.cons (ih_pspec_l03Count h82) .nil))) ?_
              refine Wc.r0 ⟨[tI 1 u7y, tP 2 2, tI 5 (wr.i64 (u26 + 1))], [bC 2 (GTerm.q z0)], []⟩ ?_
              exact ⟨_, Nat.lt_succ_self _, _, _, rfl, h78⟩
            · refine Wc.cF h80 ?_
              refine Wc.fx [] ⟨[tI 1 u1d], [], []⟩ ?_
              refine Wc.exit ?_
              obtain rfl := Option.some.inj h78
              exact ⟨_, rfl, rfl⟩
          · refine Wc.r2 [{}, {}, {}, { v := some (aI (z0.gKids.length : Int)) }, {}, { re := some (.bool false) }] ⟨[tI 1 u1d, tP 2 2, tI 5 u26, tB 16 false], [bC 2 (GTerm.q z0)], []⟩ (.cons (len_obl GTerm.c z0.gKids) (.cons (congrArg AV.bool h79) .nil)) ?_
            refine Wc.cF rfl ?_
            refine Wc.fx [] ⟨[tI 1 u1d], [], []⟩ ?_
            refine Wc.exit ?_
            obtain rfl := Option.some.inj h78
            exact ⟨_, rfl, rfl⟩
      · rintro st ⟨u5q, rfl, rfl⟩
        apply Wc.seq
        refine Wc.r0 ⟨[tI 4 u5q], [], []⟩ ?_
        obtain rfl := Option.some.inj h; exact Wc.ret dn
theorem cspec_l03Count {k : Nat} {z0 : GTerm} {u27 : Int} {r : Int} (h : pspec_l03Count k z0 u27 = some r) : FnO Try.prog 58 [.v (.agg (GTerm.q z0)) [], .v (aI u27) []] (.v (aI r) []) [] := (all_pspec_l03Count k) h

def pspec_l01In (k : Nat) (u4o : Int) (u7z : Int) (u5r : Int) : Option Bool :=
  if (decide (u4o ≥ u7z)) = true then
    some (decide (u4o ≤ u5r))
  else
    some false
theorem cspec_l01In {k : Nat} {u4o : Int} {u7z : Int} {u5r : Int} {r : Bool} (h : pspec_l01In k u4o u7z u5r = some r) : FnO Try.prog 38 [.v (aI u4o) [], .v (aI u7z) [], .v (aI u5r) []] (.v (.bool r) []) [] := by
  refine FnO.o2 Try.func38 (rfl : Try.f38.body = some _) ?_
  intro w0 X0 Fin pv0 pb gt
  unfold pspec_l01In at h
  apply Wc.seq
  refine Wc.r0 ⟨[tI 0 u4o, tI 1 u7z, tI 2 u5r], [], []⟩ ?_
  apply Wc.seq
  rcases oif h with ⟨h83, h⟩ | ⟨h83, h⟩
  · refine Wc.r2 [{}, {}, {}, { re := some (.bool true) }] ⟨[tB 6 (decide (u4o ≤ u5r))], [], []⟩ (.cons (congrArg AV.bool h83) .nil) ?_
    obtain rfl := Option.some.inj h; exact Wc.ret dn
  · refine Wc.r2 [{}, {}, {}, { re := some (.bool false) }] ⟨[tB 6 false], [], []⟩ (.cons (congrArg AV.bool h83) .nil) ?_
    obtain rfl := Option.some.inj h; exact Wc.ret dn

def pspec_l03Name_L1 (k : Nat) (vb : ByteArray) : Nat → Int → Option (Out Bool Unit)
  | 0, _ => none
  | m + 1, vw =>
    if (decide (vw < (vb.size : Int))) = true then
      if 0 ≤ vw ∧ (vw).toNat < vb.size then
        if (decide ((bt vb vw) < 33)) = true then
          some (.ret false)
        else
          if 0 ≤ vw ∧ (vw).toNat < vb.size then
            if (decide ((bt vb vw) > 126)) = true then
              some (.ret false)
            else
              if 0 ≤ vw ∧ (vw).toNat < vb.size then
                if ((bt vb vw) == 39) = true then
                  some (.ret false)
                else
                  if 0 ≤ vw ∧ (vw).toNat < vb.size then
                    if ((bt vb vw) == 34) = true then
                      some (.ret false)
                    else
                      pspec_l03Name_L1 k vb m (wr.i64 (vw + 1))
                  else none
              else none
          else none
      else none
    else
      some (.done ())
def pspec_l03Name (k : Nat) (vb : ByteArray) : Option Bool :=
  (pspec_l03Name_L1 k vb k 0).bind fun out1 => match out1 with
  | .ret r => some r
  | .done () =>
    (pspec_l01In k (vb.size : Int) 1 20).bind fun uan =>
    some uan
theorem cspec_l03Name {k : Nat} {vb : ByteArray} {r : Bool} (h : pspec_l03Name k vb = some r) : FnO Try.prog 69 [.v (.str vb) []] (.v (.bool r) []) [] := by
  refine FnO.o2 Try.func69 (rfl : Try.f69.body = some _) ?_
  intro w0 X0 Fin pv0 pb gt
  unfold pspec_l03Name at h
  apply Wc.seq
  refine Wc.r0 ⟨[tS 0 vb], [], []⟩ ?_
  apply Wc.seq
  apply Wc.seq
  refine Wc.r0 ⟨[tS 0 vb, tI 3 0], [], []⟩ ?_
  obtain ⟨out1, h84, h⟩ := obind h
  refine Wc.lastJ (fun st => out1 = .done () ∧ st = ⟨[tS 0 vb], [], []⟩) ?_ ?_
  · refine Wc.block ?_
    refine Wc.loop (fun m st => ∃ (vw : Int), st = ⟨[tS 0 vb, tI 3 vw], [], []⟩ ∧ pspec_l03Name_L1 k vb m vw = some out1) ?_ k ⟨_, rfl, h84⟩
    rintro m st ⟨vw, rfl, h84⟩
    cases m with
    | zero => exact (onone h84).elim
    | succ m =>
      apply Wc.seq
      apply Wc.seq
      refine Wc.r0 ⟨[tS 0 vb, tI 3 vw, tB 7 (decide (vw < (vb.size : Int)))], [], []⟩ ?_
      rcases oif h84 with ⟨h85, h84⟩ | ⟨h85, h84⟩
      · refine Wc.cT h85 ?_
        refine Wc.fx [] ⟨[tS 0 vb, tI 3 vw], [], []⟩ ?_
        refine Wc.skip ?_
        apply Wc.seq
        refine Wc.block ?_
        apply Wc.seq
        obtain ⟨h86, h84⟩ := oguard h84
        rcases oif h84 with ⟨h87, h84⟩ | ⟨h87, h84⟩
        · refine Wc.r2 [{}, {}, {}, {}, { re := some (.bool true) }] ⟨[tS 0 vb, tI 3 vw, tB 31 true], [], []⟩ (.cons h86 (.cons (congrArg AV.bool h87) .nil)) ?_
          refine Wc.cT rfl ?_
          apply Wc.seq
          refine Wc.r0 ⟨[tB 2 false], [], []⟩ ?_
          refine Wc.ret ?_
          obtain rfl := Option.some.inj h84
          obtain rfl := Option.some.inj h
          exact ⟨.inl rfl, by kernel_rfl, by kernel_rfl⟩
        · obtain ⟨h88, h84⟩ := oguard h84
          rcases oif h84 with ⟨h89, h84⟩ | ⟨h89, h84⟩
          · refine Wc.r2 [{}, {}, {}, {}, { re := some (.bool false) }, {}, {}, {}, {}, {}, { re := some (.bool true) }] ⟨[tS 0 vb, tI 3 vw, tB 31 true], [], []⟩ (.cons h86 (.cons (congrArg AV.bool h87) (.cons h88 (.cons (congrArg AV.bool h89) .nil)))) ?_
            refine Wc.cT rfl ?_
            apply Wc.seq
            refine Wc.r0 ⟨[tB 2 false], [], []⟩ ?_
            refine Wc.ret ?_
            obtain rfl := Option.some.inj h84
            obtain rfl := Option.some.inj h
            exact ⟨.inl rfl, by kernel_rfl, by kernel_rfl⟩
          · obtain ⟨h90, h84⟩ := oguard h84
            rcases oif h84 with ⟨h91, h84⟩ | ⟨h91, h84⟩
            · refine Wc.r2 [{}, {}, {}, {}, { re := some (.bool false) }, {}, {}, {}, {}, {}, { re := some (.bool false) }, {}, {}, {}, {}, {}, { re := some (.bool true) }] ⟨[tS 0 vb, tI 3 vw, tB 31 true], [], []⟩ (.cons h86 (.cons (congrArg AV.bool h87) (.cons h88 (.cons (congrArg AV.bool h89) (.cons h90 (.cons (congrArg AV.bool h91) .nil)))))) ?_
              refine Wc.cT rfl ?_
              apply Wc.seq
              refine Wc.r0 ⟨[tB 2 false], [], []⟩ ?_
              refine Wc.ret ?_
              obtain rfl := Option.some.inj h84
              obtain rfl := Option.some.inj h
              exact ⟨.inl rfl, by kernel_rfl, by kernel_rfl⟩
            · obtain ⟨h92, h84⟩ := oguard h84
              refine Wc.r2 [{}, {}, {}, {}, { re := some (.bool false) }, {}, {}, {}, {}, {}, { re := some (.bool false) }, {}, {}, {}, {}, {}, { re := some (.bool false) }] ⟨[tS 0 vb, tI 3 vw, tB 31 ((bt vb vw) == 34)], [], []⟩ (.cons h86 (.cons (congrArg AV.bool h87) (.cons h88 (.cons (congrArg AV.bool h89) (.cons h90 (.cons (congrArg AV.bool h91) (.cons h92 .nil))))))) ?_
              rcases oif h84 with ⟨h93, h84⟩ | ⟨h93, h84⟩
              · refine Wc.cT h93 ?_
                apply Wc.seq
                refine Wc.r0 ⟨[tB 2 false], [], []⟩ ?_
                refine Wc.ret ?_
                obtain rfl := Option.some.inj h84
                obtain rfl := Option.some.inj h
                exact ⟨.inl rfl, by kernel_rfl, by kernel_rfl⟩
              · refine Wc.cF h93 ?_
                refine Wc.fx [] ⟨[tS 0 vb, tI 3 vw], [], []⟩ ?_
                refine Wc.skip ?_
                refine Wc.r0 ⟨[tS 0 vb, tI 3 (wr.i64 (vw + 1))], [], []⟩ ?_
                exact ⟨_, Nat.lt_succ_self _, _, rfl, h84⟩
      · refine Wc.cF h85 ?_
        refine Wc.fx [] ⟨[tS 0 vb], [], []⟩ ?_
        refine Wc.exit ?_
        obtain rfl := Option.some.inj h84
        exact ⟨rfl, rfl⟩
  · rintro st ⟨rfl, rfl⟩
    apply Wc.seq
    obtain ⟨uan, h94, h⟩ := obind h
    refine Wc.r2 [{}, {}, { r := some (.v (.bool uan) []) }] ⟨[tB 2 uan], [], []⟩ (.cons (cspec_l01In h94) .nil) ?_
    obtain rfl := Option.some.inj h; exact Wc.ret dn

def pspec_l03One (k : Nat) (ur : GTerm) : Option Bool :=
  if (ur.gKind == 1) = true then
    (pspec_l01In k ur.gNum 0 99999).bind fun u80 =>
    if u80 = true then
      if (sEq ur.gName (bs [])) = true then
        some ((ur.gKids.length : Int) == 0)
      else
        some false
    else
      some false
  else
    if (ur.gKind == 2) = true then
      (pspec_l03Name k ur.gName).bind fun u81 =>
      if u81 = true then
        if (ur.gNum == 0) = true then
          some ((ur.gKids.length : Int) == 0)
        else
          some false
      else
        some false
    else
      if (ur.gKind == 3) = true then
        (pspec_l01In k ur.gNum (-999999999) 999999999).bind fun u82 =>
        if u82 = true then
          if (sEq ur.gName (bs [])) = true then
            some ((ur.gKids.length : Int) == 0)
          else
            some false
        else
          some false
      else
        if (ur.gKind == 4) = true then
          (pspec_l03Name k ur.gName).bind fun u83 =>
          if u83 = true then
            if (ur.gNum == 0) = true then
              (pspec_l01In k (ur.gKids.length : Int) 1 5).bind fun uao =>
              some uao
            else
              some false
          else
            some false
        else
          some false
theorem cspec_l03One {k : Nat} {ur : GTerm} {r : Bool} (h : pspec_l03One k ur = some r) : FnO Try.prog 64 [.v (.agg (GTerm.q ur)) []] (.v (.bool r) []) [] := by
  refine FnO.o2 Try.func64 (rfl : Try.f64.body = some _) ?_
  intro w0 X0 Fin pv0 pb gt
  unfold pspec_l03One at h
  apply Wc.seq
  refine Wc.r0 ⟨[tP 1 1], [bC 1 (GTerm.q ur)], []⟩ ?_
  apply Wc.seq
  apply Wc.seq
  refine Wc.r0 ⟨[tP 1 1, tI 4 ur.gKind], [bC 1 (GTerm.q ur)], []⟩ ?_
  refine Wc.block ?_
  apply Wc.seq
  refine Wc.r0 ⟨[tP 1 1, tI 4 ur.gKind, tB 5 (ur.gKind == 1)], [bC 1 (GTerm.q ur)], []⟩ ?_
  rcases oif h with ⟨h95, h⟩ | ⟨h95, h⟩
  · refine Wc.cT h95 ?_
    apply Wc.seq
    obtain ⟨u80, h96, h⟩ := obind h
    rcases oif h with ⟨h97, h⟩ | ⟨h97, h⟩
    · rcases oif h with ⟨h98, h⟩ | ⟨h98, h⟩
      · refine Wc.r2 [{}, {}, { r := some (.v (.bool u80) []) }, { re := some (.bool true) }, {}, {}, {}, {}, { re := some (.bool true) }, {}, {}, { v := some (aI (ur.gKids.length : Int)) }] ⟨[tB 2 ((ur.gKids.length : Int) == 0)], [], []⟩ (.cons (cspec_l01In h96) (.cons (congrArg AV.bool h97) (.cons (congrArg AV.bool h98) (.cons (len_obl GTerm.c ur.gKids) .nil)))) ?_
        obtain rfl := Option.some.inj h; exact Wc.ret dn
      · refine Wc.r2 [{}, {}, { r := some (.v (.bool u80) []) }, { re := some (.bool true) }, {}, {}, {}, {}, { re := some (.bool false) }] ⟨[tB 2 false], [], []⟩ (.cons (cspec_l01In h96) (.cons (congrArg AV.bool h97) (.cons (congrArg AV.bool h98) .nil))) ?_
        obtain rfl := Option.some.inj h; exact Wc.ret dn
    · refine Wc.r2 [{}, {}, { r := some (.v (.bool u80) []) }, { re := some (.bool false) }] ⟨[tB 2 false], [], []⟩ (.cons (cspec_l01In h96) (.cons (congrArg AV.bool h97) .nil)) ?_
      obtain rfl := Option.some.inj h; exact Wc.ret dn
  · refine Wc.cF h95 ?_
    apply Wc.seq
    refine Wc.r0 ⟨[tP 1 1, tI 4 ur.gKind, tB 21 (ur.gKind == 2)], [bC 1 (GTerm.q ur)], []⟩ ?_
    rcases oif h with ⟨h99, h⟩ | ⟨h99, h⟩
    · refine Wc.cT h99 ?_
      apply Wc.seq
      obtain ⟨u81, h100, h⟩ := obind h
      rcases oif h with ⟨h101, h⟩ | ⟨h101, h⟩
      · rcases oif h with ⟨h102, h⟩ | ⟨h102, h⟩
        · refine Wc.r2 [{}, {}, { r := some (.v (.bool u81) []) }, { re := some (.bool true) }, {}, {}, {}, {}, { re := some (.bool true) }, {}, {}, { v := some (aI (ur.gKids.length : Int)) }] ⟨[tB 2 ((ur.gKids.length : Int) == 0)], [], []⟩ (.cons (cspec_l03Name h100) (.cons (congrArg AV.bool h101) (.cons (congrArg AV.bool h102) (.cons (len_obl GTerm.c ur.gKids) .nil)))) ?_
          obtain rfl := Option.some.inj h; exact Wc.ret dn
        · refine Wc.r2 [{}, {}, { r := some (.v (.bool u81) []) }, { re := some (.bool true) }, {}, {}, {}, {}, { re := some (.bool false) }] ⟨[tB 2 false], [], []⟩ (.cons (cspec_l03Name h100) (.cons (congrArg AV.bool h101) (.cons (congrArg AV.bool h102) .nil))) ?_
          obtain rfl := Option.some.inj h; exact Wc.ret dn
      · refine Wc.r2 [{}, {}, { r := some (.v (.bool u81) []) }, { re := some (.bool false) }] ⟨[tB 2 false], [], []⟩ (.cons (cspec_l03Name h100) (.cons (congrArg AV.bool h101) .nil)) ?_
        obtain rfl := Option.some.inj h; exact Wc.ret dn
    · refine Wc.cF h99 ?_
      apply Wc.seq
      refine Wc.r0 ⟨[tP 1 1, tI 4 ur.gKind, tB 37 (ur.gKind == 3)], [bC 1 (GTerm.q ur)], []⟩ ?_
      rcases oif h with ⟨h103, h⟩ | ⟨h103, h⟩
      · refine Wc.cT h103 ?_
        apply Wc.seq
        obtain ⟨u82, h104, h⟩ := obind h
        rcases oif h with ⟨h105, h⟩ | ⟨h105, h⟩
        · rcases oif h with ⟨h106, h⟩ | ⟨h106, h⟩
          · refine Wc.r2 [{}, {}, { r := some (.v (.bool u82) []) }, { re := some (.bool true) }, {}, {}, {}, {}, { re := some (.bool true) }, {}, {}, { v := some (aI (ur.gKids.length : Int)) }] ⟨[tB 2 ((ur.gKids.length : Int) == 0)], [], []⟩ (.cons (cspec_l01In h104) (.cons (congrArg AV.bool h105) (.cons (congrArg AV.bool h106) (.cons (len_obl GTerm.c ur.gKids) .nil)))) ?_
            obtain rfl := Option.some.inj h; exact Wc.ret dn
          · refine Wc.r2 [{}, {}, { r := some (.v (.bool u82) []) }, { re := some (.bool true) }, {}, {}, {}, {}, { re := some (.bool false) }] ⟨[tB 2 false], [], []⟩ (.cons (cspec_l01In h104) (.cons (congrArg AV.bool h105) (.cons (congrArg AV.bool h106) .nil))) ?_
            obtain rfl := Option.some.inj h; exact Wc.ret dn
        · refine Wc.r2 [{}, {}, { r := some (.v (.bool u82) []) }, { re := some (.bool false) }] ⟨[tB 2 false], [], []⟩ (.cons (cspec_l01In h104) (.cons (congrArg AV.bool h105) .nil)) ?_
          obtain rfl := Option.some.inj h; exact Wc.ret dn
      · refine Wc.cF h103 ?_
        apply Wc.seq
        refine Wc.r0 ⟨[tP 1 1, tB 53 (ur.gKind == 4)], [bC 1 (GTerm.q ur)], []⟩ ?_
        rcases oif h with ⟨h107, h⟩ | ⟨h107, h⟩
        · refine Wc.cT h107 ?_
          apply Wc.seq
          obtain ⟨u83, h108, h⟩ := obind h
          rcases oif h with ⟨h109, h⟩ | ⟨h109, h⟩
          · rcases oif h with ⟨h110, h⟩ | ⟨h110, h⟩
            · obtain ⟨uao, h111, h⟩ := obind h
              refine Wc.r2 [{}, {}, { r := some (.v (.bool u83) []) }, { re := some (.bool true) }, {}, {}, {}, {}, { re := some (.bool true) }, {}, {}, { v := some (aI (ur.gKids.length : Int)) }, { r := some (.v (.bool uao) []) }] ⟨[tB 2 uao], [], []⟩ (.cons (cspec_l03Name h108) (.cons (congrArg AV.bool h109) (.cons (congrArg AV.bool h110) (.cons (len_obl GTerm.c ur.gKids) (.cons (cspec_l01In h111) .nil))))) ?_
              obtain rfl := Option.some.inj h; exact Wc.ret dn
            · refine Wc.r2 [{}, {}, { r := some (.v (.bool u83) []) }, { re := some (.bool true) }, {}, {}, {}, {}, { re := some (.bool false) }] ⟨[tB 2 false], [], []⟩ (.cons (cspec_l03Name h108) (.cons (congrArg AV.bool h109) (.cons (congrArg AV.bool h110) .nil))) ?_
              obtain rfl := Option.some.inj h; exact Wc.ret dn
          · refine Wc.r2 [{}, {}, { r := some (.v (.bool u83) []) }, { re := some (.bool false) }] ⟨[tB 2 false], [], []⟩ (.cons (cspec_l03Name h108) (.cons (congrArg AV.bool h109) .nil)) ?_
            obtain rfl := Option.some.inj h; exact Wc.ret dn
        · refine Wc.cF h107 ?_
          refine Wc.fx [] ⟨[], [], []⟩ ?_
          refine Wc.skip ?_
          apply Wc.seq
          refine Wc.r0 ⟨[tB 2 false], [], []⟩ ?_
          obtain rfl := Option.some.inj h; exact Wc.ret dn

def pspec_l03Right_L1 (k : Nat) (rspec_l03Right : GTerm → Int → Option Bool) (vq : GTerm) (z6 : Int) : Nat → Int → Option (Out Bool Unit)
  | 0, _ => none
  | m + 1, u1o =>
    if (decide (u1o < (vq.gKids.length : Int))) = true then
      (at' vq.gKids u1o).bind fun u84 =>
      (rspec_l03Right u84 (wr.i64 (z6 + 1))).bind fun uap =>
      if (!uap) = true then
        some (.ret false)
      else
        pspec_l03Right_L1 k rspec_l03Right vq z6 m (wr.i64 (u1o + 1))
    else
      some (.done ())
mutual
def pspec_l03Right : Nat → GTerm → Int → Option Bool
  | 0, _, _ => none
  | k + 1, vq, z6 =>
    if (decide (z6 > 40)) = true then
      some false
    else
      (pspec_l03One k vq).bind fun uaq =>
      if (!uaq) = true then
        some false
      else
        (pspec_l03Right_L1 k (pspec_l03Right k) vq z6 k 0).bind fun out1 => match out1 with
        | .ret r => some r
        | .done () =>
          some true
end
theorem all_pspec_l03Right : ∀ k : Nat, (∀ {vq : GTerm} {z6 : Int} {r : Bool}, pspec_l03Right k vq z6 = some r → FnO Try.prog 59 [.v (.agg (GTerm.q vq)) [], .v (aI z6) []] (.v (.bool r) []) []) := by
  intro k
  induction k with
  | zero =>
    · intro vq z6 r h
      exact (onone (by rw [pspec_l03Right] at h; exact h)).elim
  | succ k ih =>
    have ih_pspec_l03Right := @ih
    · intro vq z6 r h
      rw [pspec_l03Right] at h
      refine FnO.o2 Try.func59 (rfl : Try.f59.body = some _) ?_
      intro w0 X0 Fin pv0 pb gt
      apply Wc.seq
      refine Wc.r0 ⟨[tI 1 z6, tP 2 2], [bC 2 (GTerm.q vq)], []⟩ ?_
      apply Wc.seq
      apply Wc.seq
      rcases oif h with ⟨h112, h⟩ | ⟨h112, h⟩
      · refine Wc.r2 [{}, {}, { re := some (.bool true) }] ⟨[tI 1 z6, tP 2 2, tB 12 true], [bC 2 (GTerm.q vq)], []⟩ (.cons (congrArg AV.bool h112) .nil) ?_
        refine Wc.cT rfl ?_
        apply Wc.seq
        refine Wc.r0 ⟨[tB 4 false], [], []⟩ ?_
        obtain rfl := Option.some.inj h; exact Wc.ret dn
      · obtain ⟨uaq, h113, h⟩ := obind h
        refine Wc.r2 [{}, {}, { re := some (.bool false) }, {}, { r := some (.v (.bool uaq) []) }] ⟨[tI 1 z6, tP 2 2, tB 12 (!uaq)], [bC 2 (GTerm.q vq)], []⟩ (.cons (congrArg AV.bool h112) (.cons (cspec_l03One h113) .nil)) ?_
        rcases oif h with ⟨h114, h⟩ | ⟨h114, h⟩
        · refine Wc.cT h114 ?_
          apply Wc.seq
          refine Wc.r0 ⟨[tB 4 false], [], []⟩ ?_
          obtain rfl := Option.some.inj h; exact Wc.ret dn
        · refine Wc.cF h114 ?_
          refine Wc.fx [] ⟨[tI 1 z6, tP 2 2], [bC 2 (GTerm.q vq)], []⟩ ?_
          refine Wc.skip ?_
          apply Wc.seq
          apply Wc.seq
          refine Wc.r0 ⟨[tI 1 z6, tP 2 2, tI 5 0], [bC 2 (GTerm.q vq)], []⟩ ?_
          obtain ⟨out1, h115, h⟩ := obind h
          refine Wc.lastJ (fun st => out1 = .done () ∧ st = ⟨[], [], []⟩) ?_ ?_
          · refine Wc.block ?_
            refine Wc.loop (fun m st => ∃ (u1o : Int), st = ⟨[tI 1 z6, tP 2 2, tI 5 u1o], [bC 2 (GTerm.q vq)], []⟩ ∧ pspec_l03Right_L1 k (pspec_l03Right k) vq z6 m u1o = some out1) ?_ k ⟨_, rfl, h115⟩
            rintro m st ⟨u1o, rfl, h115⟩
            cases m with
            | zero => exact (onone h115).elim
            | succ m =>
              apply Wc.seq
              apply Wc.seq
              refine Wc.r2 [{}, {}, {}, { v := some (aI (vq.gKids.length : Int)) }] ⟨[tI 1 z6, tP 2 2, tI 5 u1o, tB 17 (decide (u1o < (vq.gKids.length : Int)))], [bC 2 (GTerm.q vq)], []⟩ (.cons (len_obl GTerm.c vq.gKids) .nil) ?_
              rcases oif h115 with ⟨h116, h115⟩ | ⟨h116, h115⟩
              · refine Wc.cT h116 ?_
                refine Wc.fx [] ⟨[tI 1 z6, tP 2 2, tI 5 u1o], [bC 2 (GTerm.q vq)], []⟩ ?_
                refine Wc.skip ?_
                apply Wc.seq
                refine Wc.block ?_
                apply Wc.seq
                obtain ⟨u84, h117, h115⟩ := obind h115
                obtain ⟨uap, h118, h115⟩ := obind h115
                refine Wc.r2 [{}, {}, {}, { v := some (.vptr (GTerm.q u84)) }, {}, {}, {}, { r := some (.v (.bool uap) []) }] ⟨[tI 1 z6, tP 2 2, tI 5 u1o, tB 28 (!uap)], [bC 2 (GTerm.q vq)], []⟩ (.cons (at_obl (c := GTerm.c) (GTerm.c_eq u84) GTerm.c_len h117) (.cons (len_ok 4 (GTerm.q u84)) (.cons (ih_pspec_l03Right h118) .nil))) ?_
                rcases oif h115 with ⟨h119, h115⟩ | ⟨h119, h115⟩
                · refine Wc.cT h119 ?_
                  apply Wc.seq
                  refine Wc.r0 ⟨[tB 4 false], [], []⟩ ?_
                  refine Wc.ret ?_
                  obtain rfl := Option.some.inj h115
                  obtain rfl := Option.some.inj h
                  exact ⟨.inl rfl, by kernel_rfl, by kernel_rfl⟩
                · refine Wc.cF h119 ?_
                  refine Wc.fx [] ⟨[tI 1 z6, tP 2 2, tI 5 u1o], [bC 2 (GTerm.q vq)], []⟩ ?_
                  refine Wc.skip ?_
                  refine Wc.r0 ⟨[tI 1 z6, tP 2 2, tI 5 (wr.i64 (u1o + 1))], [bC 2 (GTerm.q vq)], []⟩ ?_
                  exact ⟨_, Nat.lt_succ_self _, _, rfl, h115⟩
              · refine Wc.cF h116 ?_
                refine Wc.fx [] ⟨[], [], []⟩ ?_
                refine Wc.exit ?_
                obtain rfl := Option.some.inj h115
                exact ⟨rfl, rfl⟩
          · rintro st ⟨rfl, rfl⟩
            apply Wc.seq
            refine Wc.r0 ⟨[tB 4 true], [], []⟩ ?_
            obtain rfl := Option.some.inj h; exact Wc.ret dn
theorem cspec_l03Right {k : Nat} {vq : GTerm} {z6 : Int} {r : Bool} (h : pspec_l03Right k vq z6 = some r) : FnO Try.prog 59 [.v (.agg (GTerm.q vq)) [], .v (aI z6) []] (.v (.bool r) []) [] := (all_pspec_l03Right k) h

def pspec_TermOk (k : Nat) (u5s : GTerm) : Option Bool :=
  (pspec_l03Count k u5s 400).bind fun uar =>
  if (decide (uar ≥ 0)) = true then
    (pspec_l03Right k u5s 1).bind fun uas =>
    some uas
  else
    some false
theorem cspec_TermOk {k : Nat} {u5s : GTerm} {r : Bool} (h : pspec_TermOk k u5s = some r) : FnO Try.prog 36 [.v (.agg (GTerm.q u5s)) []] (.v (.bool r) []) [] := by
  refine FnO.o2 Try.func36 (rfl : Try.f36.body = some _) ?_
  intro w0 X0 Fin pv0 pb gt
  unfold pspec_TermOk at h
  apply Wc.seq
  refine Wc.r0 ⟨[tP 1 1], [bC 1 (GTerm.q u5s)], []⟩ ?_
  apply Wc.seq
  obtain ⟨uar, h120, h⟩ := obind h
  rcases oif h with ⟨h121, h⟩ | ⟨h121, h⟩
  · obtain ⟨uas, h122, h⟩ := obind h
    refine Wc.r2 [{}, { r := some (.v (aI uar) []) }, {}, { re := some (.bool true) }, {}, { r := some (.v (.bool uas) []) }] ⟨[tB 2 uas], [], []⟩ (.cons (cspec_l03Count h120) (.cons (congrArg AV.bool h121) (.cons (cspec_l03Right h122) .nil))) ?_
    obtain rfl := Option.some.inj h; exact Wc.ret dn
  · refine Wc.r2 [{}, { r := some (.v (aI uar) []) }, {}, { re := some (.bool false) }] ⟨[tB 2 false], [], []⟩ (.cons (cspec_l03Count h120) (.cons (congrArg AV.bool h121) .nil)) ?_
    obtain rfl := Option.some.inj h; exact Wc.ret dn

def pspec_l03Term (k : Nat) (u85 : GL01Cur) : Option (GL01Cur × GTerm) :=
  (pspec_l03Made k u85 3).bind fun u0w =>
  (pspec_TermOk k u0w.2).bind fun uat =>
  if uat = true then
    some (u0w.1, u0w.2)
  else
    (pspec_l03Atom k (bs [97])).bind fun uau =>
    some (u0w.1, uau)
theorem cspec_l03Term {k : Nat} {u85 : GL01Cur} {r : GL01Cur × GTerm} (h : pspec_l03Term k u85 = some r) : FnO Try.prog 20 [.p (GL01Cur.q u85) []] (.v (.agg (GTerm.q r.2)) [(3, .app 26)]) [(0, .p (GL01Cur.q r.1) [])] := by
  refine FnO.o2 Try.func20 (rfl : Try.f20.body = some _) ?_
  intro w0 X0 Fin pv0 pb gt
  unfold pspec_l03Term at h
  apply Wc.seq
  refine Wc.r0 ⟨[tP 0 1000000, tP 2 2], [(2, .cells GTerm.z [(3, .app 26)]), bC 1000000 (GL01Cur.q u85)], []⟩ ?_
  apply Wc.seq
  obtain ⟨u0w, h127, h⟩ := obind h
  refine Wc.r2 [{}, { r := some (.v (.agg (GTerm.q u0w.2)) [(3, .app 26)]), outs := [(0, .p (GL01Cur.q u0w.1) [])] }, {}, { tk := [5] }] ⟨[tP 2 2, tP 3 3], [(2, .cells GTerm.z [(3, .app 26)]), (3, .cells (GTerm.q u0w.2) [(3, .app 26)]), bC 1000000 (GL01Cur.q u0w.1)], []⟩ (.cons (cspec_l03Made h127) .nil) ?_
  apply Wc.seq
  apply Wc.seq
  obtain ⟨uat, h128, h⟩ := obind h
  refine Wc.r2 [{}, { r := some (.v (.bool uat) []) }] ⟨[tP 2 2, tP 3 3, tB 7 uat], [(2, .cells GTerm.z [(3, .app 26)]), (3, .cells (GTerm.q u0w.2) [(3, .app 26)]), bC 1000000 (GL01Cur.q u0w.1)], []⟩ (.cons (cspec_TermOk h128) .nil) ?_
  rcases oif h with ⟨h129, h⟩ | ⟨h129, h⟩
  · refine Wc.cT h129 ?_
    apply Wc.seq
    refine Wc.r1 [{ md := 1 }, { tk := [8] }] ⟨[tP 2 2], [(2, .cells (GTerm.q u0w.2) [(3, .app 26)]), bC 1000000 (GL01Cur.q u0w.1)], []⟩ ?_
    obtain rfl := Option.some.inj h; exact Wc.ret dn
  · refine Wc.cF h129 ?_
    refine Wc.fx [] ⟨[tP 2 2], [(2, .cells GTerm.z [(3, .app 26)]), bC 1000000 (GL01Cur.q u0w.1)], []⟩ ?_
    refine Wc.skip ?_
    apply Wc.seq
    obtain ⟨uau, h130, h⟩ := obind h
    refine Wc.r2 [{ r := some (.v (.agg (GTerm.q uau)) [(3, .app 26)]) }, { tk := [9] }] ⟨[tP 2 2], [(2, .cells (GTerm.q uau) [(3, .app 26)]), bC 1000000 (GL01Cur.q u0w.1)], []⟩ (.cons (cspec_l03Atom h130) .nil) ?_
    obtain rfl := Option.some.inj h; exact Wc.ret dn

def pspec_DrawTerms (k : Nat) (u86 : List Int) : Option (GTerm × GTerm × GTerm) :=
  (pspec_l01New k u86).bind fun uav =>
  (pspec_l03Term k uav).bind fun u30 =>
  (pspec_l03Term k u30.1).bind fun u3m =>
  (pspec_l03Term k u3m.1).bind fun u5t =>
  some (u30.2, u3m.2, u5t.2)
theorem cspec_DrawTerms {k : Nat} {u86 : List Int} {r : GTerm × GTerm × GTerm} (h : pspec_DrawTerms k u86 = some r) : FnO Try.prog 5 [.v (.sl (List.map cI.u8 u86)) []] (.v (.tup [.agg (GTerm.q r.1), .agg (GTerm.q r.2.1), .agg (GTerm.q r.2.2)]) [(3, .app 26)]) [] := by
  refine FnO.o2 Try.func5 (rfl : Try.f5.body = some _) ?_
  intro w0 X0 Fin pv0 pb gt
  unfold pspec_DrawTerms at h
  apply Wc.seq
  refine Wc.r0 ⟨[tV 0 (.sl (List.map cI.u8 u86)), tP 2 2, tP 3 3, tP 4 4], [(2, .cells GTerm.z [(3, .app 26)]), (3, .cells GTerm.z [(3, .app 26)]), (4, .cells GTerm.z [(3, .app 26)])], []⟩ ?_
  apply Wc.seq
  obtain ⟨uav, h135, h⟩ := obind h
  refine Wc.r2 [{}, { r := some (.p (GL01Cur.q uav) []) }] ⟨[tP 2 2, tP 3 3, tP 4 4, tP 5 9], [(2, .cells GTerm.z [(3, .app 26)]), (3, .cells GTerm.z [(3, .app 26)]), (4, .cells GTerm.z [(3, .app 26)]), bC 9 (GL01Cur.q uav)], []⟩ (.cons (cspec_l01New h135) .nil) ?_
  apply Wc.seq
  obtain ⟨u30, h136, h⟩ := obind h
  refine Wc.r2 [{}, { r := some (.v (.agg (GTerm.q u30.2)) [(3, .app 26)]), outs := [(0, .p (GL01Cur.q u30.1) [])] }, {}, { tk := [11] }] ⟨[tP 2 2, tP 3 3, tP 4 4, tP 5 9, tP 6 6], [(2, .cells GTerm.z [(3, .app 26)]), (3, .cells GTerm.z [(3, .app 26)]), (4, .cells GTerm.z [(3, .app 26)]), (6, .cells (GTerm.q u30.2) [(3, .app 26)]), bC 9 (GL01Cur.q u30.1)], []⟩ (.cons (cspec_l03Term h136) .nil) ?_
  apply Wc.seq
  obtain ⟨u3m, h137, h⟩ := obind h
  refine Wc.r2 [{}, { r := some (.v (.agg (GTerm.q u3m.2)) [(3, .app 26)]), outs := [(0, .p (GL01Cur.q u3m.1) [])] }, {}, { tk := [13] }] ⟨[tP 2 2, tP 3 3, tP 4 4, tP 5 9, tP 6 6, tP 7 7], [(2, .cells GTerm.z [(3, .app 26)]), (3, .cells GTerm.z [(3, .app 26)]), (4, .cells GTerm.z [(3, .app 26)]), (6, .cells (GTerm.q u30.2) [(3, .app 26)]), (7, .cells (GTerm.q u3m.2) [(3, .app 26)]), bC 9 (GL01Cur.q u3m.1)], []⟩ (.cons (cspec_l03Term h137) .nil) ?_
  apply Wc.seq
  obtain ⟨u5t, h138, h⟩ := obind h
  refine Wc.draw hmix [{ md := 1 }, { md := 1 }, {}, { r := some (.v (.agg (GTerm.q u5t.2)) [(3, .app 26)]), outs := [(0, .p (GL01Cur.q u5t.1) [])] }, { tk := [14] }, { tk := [15] }, { tk := [17] }] [] [2, 3, 4] [2, 3, 4] [] ⟨[tP 2 2, tP 3 3, tP 4 4], [(2, .cells (GTerm.q u30.2) [(3, .app 26)]), (3, .cells (GTerm.q u3m.2) [(3, .app 26)]), (4, .cells (GTerm.q u5t.2) [(3, .app 26)])], []⟩ _ (by kernel_rfl) (fun X => by kernel_rfl) (.cons (cspec_l03Term h138) .nil) ?_
  refine Wc.fx [.un (.b 3 3), .un (.b 4 3)] ⟨[tP 2 2, tP 3 3, tP 4 4], [(2, .cells (GTerm.q u30.2) [(3, .app 26)]), bC 3 (GTerm.q u3m.2), bC 4 (GTerm.q u5t.2)], []⟩ ?_
  obtain rfl := Option.some.inj h; exact Wc.ret dn

def pimpl_BindsNew (k : Nat) (vc : Int) : Option GBinds :=
  if 0 ≤ (if 5000 < (if 0 > vc then 0 else vc) then 5000 else (if 0 > vc then 0 else vc)) ∧ (if 5000 < (if 0 > vc then 0 else vc) then 5000 else (if 0 > vc then 0 else vc)) ≤ 1073741824 then
    some (GBinds.mk (List.replicate ((if 5000 < (if 0 > vc then 0 else vc) then 5000 else (if 0 > vc then 0 else vc))).toNat (GTerm.mk 0 (bs []) 0 [])))
  else none


def pspec_l03Shift_L2 (k : Nat) (rspec_l03Shift : GTerm → Int → Option GTerm) (ul : GTerm) (vd : Int) : Nat → Int → GTerm → Option (Out GTerm GTerm)
  | 0, _, _ => none
  | m + 1, u28, zd =>
    if (decide (u28 < (ul.gKids.length : Int))) = true then
      (at' ul.gKids u28).bind fun u87 =>
      (rspec_l03Shift u87 vd).bind fun u1p =>
      if zd.gKids.length + [u1p].length ≤ 1073741824 then
        pspec_l03Shift_L2 k rspec_l03Shift ul vd m (wr.i64 (u28 + 1)) (GTerm.mk zd.gKind zd.gName zd.gNum (zd.gKids ++ [u1p]))
      else none
    else
      some (.done zd)
def pspec_l03Shift_J1 (k : Nat) (rspec_l03Shift : GTerm → Int → Option GTerm) (ul : GTerm) (vd : Int) (u1q : GTerm) : Option GTerm :=
  (pspec_l03Shift_L2 k rspec_l03Shift ul vd k 0 (GTerm.mk u1q.gKind u1q.gName u1q.gNum [])).bind fun out2 => match out2 with
  | .ret r => some r
  | .done u5u =>
    some u5u
mutual
def pspec_l03Shift : Nat → GTerm → Int → Option GTerm
  | 0, _, _ => none
  | k + 1, ul, vd =>
    if (ul.gKind == 1) = true then
      pspec_l03Shift_J1 k (pspec_l03Shift k) ul vd (GTerm.mk ul.gKind ul.gName (wr.i64 (ul.gNum + vd)) ul.gKids)
    else
      pspec_l03Shift_J1 k (pspec_l03Shift k) ul vd ul
end
theorem all_pspec_l03Shift : ∀ k : Nat, (∀ {ul : GTerm} {vd : Int} {r : GTerm}, pspec_l03Shift k ul vd = some r → FnO Try.prog 39 [.v (.agg (GTerm.q ul)) [], .v (aI vd) []] (.v (.agg (GTerm.q r)) [(3, .app 26)]) []) := by
  intro k
  induction k with
  | zero =>
    · intro ul vd r h
      exact (onone (by rw [pspec_l03Shift] at h; exact h)).elim
  | succ k ih =>
    have ih_pspec_l03Shift := @ih
    · intro ul vd r h
      rw [pspec_l03Shift] at h
      refine FnO.o2 Try.func39 (rfl : Try.f39.body = some _) ?_
      intro w0 X0 Fin pv0 pb gt
      apply Wc.seq
      refine Wc.r0 ⟨[tI 1 vd, tP 2 2, tP 4 4], [bC 2 (GTerm.q ul), (4, .cells GTerm.z [(3, .app 26)])], []⟩ ?_
      apply Wc.seq
      refine Wc.r0 ⟨[tI 1 vd, tP 2 2, tP 4 4, tP 5 5], [bC 2 (GTerm.q ul), (4, .cells GTerm.z [(3, .app 26)]), bC 5 (GTerm.q ul)], []⟩ ?_
      refine Wc.seqJ (fun st => ∃ (u1q : GTerm), st = ⟨[tI 1 vd, tP 2 2, tP 4 4, tP 5 5], [bC 2 (GTerm.q ul), (4, .cells GTerm.z [(3, .app 26)]), bC 5 (GTerm.q u1q)], []⟩ ∧ pspec_l03Shift_J1 k (pspec_l03Shift k) ul vd u1q = some r) ?_ ?_
      · apply Wc.seq
        refine Wc.r0 ⟨[tI 1 vd, tP 2 2, tP 4 4, tP 5 5, tB 10 (ul.gKind == 1)], [bC 2 (GTerm.q ul), (4, .cells GTerm.z [(3, .app 26)]), bC 5 (GTerm.q ul)], []⟩ ?_
        rcases oif h with ⟨h151, h⟩ | ⟨h151, h⟩
        · refine Wc.cT h151 ?_
          refine Wc.r0 ⟨[tI 1 vd, tP 2 2, tP 4 4, tP 5 5], [bC 2 (GTerm.q ul), (4, .cells GTerm.z [(3, .app 26)]), bC 5 [aI ul.gKind, .str ul.gName, aI (wr.i64 (ul.gNum + vd)), .sl (List.map GTerm.c ul.gKids)]], []⟩ ?_
          exact ⟨_, rfl, h⟩
        · refine Wc.cF h151 ?_
          refine Wc.fx [] ⟨[tI 1 vd, tP 2 2, tP 4 4, tP 5 5], [bC 2 (GTerm.q ul), (4, .cells GTerm.z [(3, .app 26)]), bC 5 (GTerm.q ul)], []⟩ ?_
          refine Wc.skip ?_
          exact ⟨_, rfl, h⟩
      · rintro st ⟨u1q, rfl, h⟩
        apply Wc.seq
        refine Wc.r2 [{ c := some (List.map GTerm.c []) }, {}, { tk := [16] }] ⟨[tI 1 vd, tP 2 2, tP 4 4, tP 5 5], [bC 2 (GTerm.q ul), (4, .cells GTerm.z [(3, .app 26)]), (5, .cells [aI u1q.gKind, .str u1q.gName, aI u1q.gNum, .sl (List.map GTerm.c [])] [(3, .app 26)])], []⟩ (.cons (cl_nil GTerm.c) .nil) ?_
        apply Wc.seq
        apply Wc.seq
        refine Wc.r0 ⟨[tI 1 vd, tP 2 2, tP 4 4, tP 5 5, tI 6 0], [bC 2 (GTerm.q ul), (4, .cells GTerm.z [(3, .app 26)]), (5, .cells [aI u1q.gKind, .str u1q.gName, aI u1q.gNum, .sl (List.map GTerm.c [])] [(3, .app 26)])], []⟩ ?_
        obtain ⟨out2, h146, h⟩ := obind h
        refine Wc.lastJ (fun st => ∃ (u5u : GTerm), out2 = .done u5u ∧ st = ⟨[tP 4 4, tP 5 5], [(4, .cells GTerm.z [(3, .app 26)]), (5, .cells (GTerm.q u5u) [(3, .app 26)])], []⟩) ?_ ?_
        · refine Wc.block ?_
          refine Wc.loop (fun m st => ∃ (u28 : Int) (zd : GTerm), st = ⟨[tI 1 vd, tP 2 2, tP 4 4, tP 5 5, tI 6 u28], [bC 2 (GTerm.q ul), (4, .cells GTerm.z [(3, .app 26)]), (5, .cells (GTerm.q zd) [(3, .app 26)])], []⟩ ∧ pspec_l03Shift_L2 k (pspec_l03Shift k) ul vd m u28 zd = some out2) ?_ k ⟨_, _, rfl, h146⟩
          rintro m st ⟨u28, zd, rfl, h146⟩
          cases m with
          | zero => exact (onone h146).elim
          | succ m =>
            apply Wc.seq
            apply Wc.seq
            refine Wc.r2 [{}, {}, {}, { v := some (aI (ul.gKids.length : Int)) }] ⟨[tI 1 vd, tP 2 2, tP 4 4, tP 5 5, tI 6 u28, tB 22 (decide (u28 < (ul.gKids.length : Int)))], [bC 2 (GTerm.q ul), (4, .cells GTerm.z [(3, .app 26)]), (5, .cells (GTerm.q zd) [(3, .app 26)])], []⟩ (.cons (len_obl GTerm.c ul.gKids) .nil) ?_
            rcases oif h146 with ⟨h147, h146⟩ | ⟨h147, h146⟩
            · refine Wc.cT h147 ?_
              refine Wc.fx [] ⟨[tI 1 vd, tP 2 2, tP 4 4, tP 5 5, tI 6 u28], [bC 2 (GTerm.q ul), (4, .cells GTerm.z [(3, .app 26)]), (5, .cells (GTerm.q zd) [(3, .app 26)])], []⟩ ?_
              refine Wc.skip ?_
              apply Wc.seq
              refine Wc.block ?_
              obtain ⟨u87, h148, h146⟩ := obind h146
              obtain ⟨u1p, h149, h146⟩ := obind h146
              obtain ⟨h150, h146⟩ := oguard h146
              refine Wc.draw hmix [{}, { md := 1 }, {}, {}, {}, { v := some (.vptr (GTerm.q u87)) }, {}, {}, { r := some (.v (.agg (GTerm.q u1p)) [(3, .app 26)]) }, { c := some (List.map GTerm.c [u1p]) }, { c := some (List.map GTerm.c (zd.gKids ++ [u1p])), tk := [26] }, {}, { tk := [35] }] [] [1, 2, 4, 5, 6] [2, 4, 5] [] ⟨[tI 1 vd, tP 2 2, tP 4 4, tP 5 5, tI 6 u28], [bC 2 (GTerm.q ul), (4, .cells GTerm.z [(3, .app 26)]), (5, .cells [aI zd.gKind, .str zd.gName, aI zd.gNum, .sl (List.map GTerm.c (zd.gKids ++ [u1p]))] [(3, .app 26)])], []⟩ _ (by kernel_rfl) (fun X => by kernel_rfl) (.cons (at_obl (c := GTerm.c) (GTerm.c_eq u87) GTerm.c_len h148) (.cons (len_ok 4 (GTerm.q u87)) (.cons (ih_pspec_l03Shift h149) (.cons (cl_cons (c := GTerm.c) (x := u1p) (GTerm.c_eq u1p) (cl_nil GTerm.c)) (.cons (app_re2 GTerm.c zd.gKids [u1p]) (.cons (app_leaf (c := GTerm.c) (ys := [u1p]) GTerm.c_leaf) (.cons (app_obl2 (c := GTerm.c) (xs := zd.gKids) (ys := [u1p]) GTerm.c_len h150) .nil))))))) ?_
              refine Wc.r0 ⟨[tI 1 vd, tP 2 2, tP 4 4, tP 5 5, tI 6 (wr.i64 (u28 + 1))], [bC 2 (GTerm.q ul), (4, .cells GTerm.z [(3, .app 26)]), (5, .cells [aI zd.gKind, .str zd.gName, aI zd.gNum, .sl (List.map GTerm.c (zd.gKids ++ [u1p]))] [(3, .app 26)])], []⟩ ?_
              exact ⟨_, Nat.lt_succ_self _, _, _, rfl, h146⟩
            · refine Wc.cF h147 ?_
              refine Wc.fx [] ⟨[tP 4 4, tP 5 5], [(4, .cells GTerm.z [(3, .app 26)]), (5, .cells (GTerm.q zd) [(3, .app 26)])], []⟩ ?_
              refine Wc.exit ?_
              obtain rfl := Option.some.inj h146
              exact ⟨_, rfl, rfl⟩
        · rintro st ⟨u5u, rfl, rfl⟩
          apply Wc.seq
          refine Wc.r1 [{ md := 1 }, { tk := [37] }] ⟨[tP 4 4], [(4, .cells (GTerm.q u5u) [(3, .app 26)])], []⟩ ?_
          obtain rfl := Option.some.inj h; exact Wc.ret dn
theorem cspec_l03Shift {k : Nat} {ul : GTerm} {vd : Int} {r : GTerm} (h : pspec_l03Shift k ul vd = some r) : FnO Try.prog 39 [.v (.agg (GTerm.q ul)) [], .v (aI vd) []] (.v (.agg (GTerm.q r)) [(3, .app 26)]) [] := (all_pspec_l03Shift k) h

def pspec_l03ShiftedRaw (k : Nat) (u06 : GTerm) (u3n : Int) : Option GTerm :=
  (pspec_TermOk k u06).bind fun uaw =>
  if (!uaw) = true then
    some u06
  else
    (pspec_l01In k u3n (-99999) 99999).bind fun uax =>
    if (!uax) = true then
      some u06
    else
      (pspec_l03Shift k u06 u3n).bind fun u3o =>
      (pspec_TermOk k u3o).bind fun uay =>
      if (!uay) = true then
        some u06
      else
        some u3o
theorem cspec_l03ShiftedRaw {k : Nat} {u06 : GTerm} {u3n : Int} {r : GTerm} (h : pspec_l03ShiftedRaw k u06 u3n = some r) : FnO Try.prog 21 [.v (.agg (GTerm.q u06)) [], .v (aI u3n) []] (.v (.agg (GTerm.q r)) []) [] := by
  refine FnO.o2 Try.func21 (rfl : Try.f21.body = some _) ?_
  intro w0 X0 Fin pv0 pb gt
  unfold pspec_l03ShiftedRaw at h
  apply Wc.seq
  refine Wc.r0 ⟨[tI 1 u3n, tP 2 2, tP 4 4], [bC 2 (GTerm.q u06), (4, .cells GTerm.z [(3, .app 26)])], []⟩ ?_
  apply Wc.seq
  apply Wc.seq
  obtain ⟨uaw, h159, h⟩ := obind h
  rcases oif h with ⟨h160, h⟩ | ⟨h160, h⟩
  · refine Wc.r2 [{}, { r := some (.v (.bool uaw) []) }, {}, { re := some (.bool true) }] ⟨[tI 1 u3n, tP 2 2, tP 4 4, tB 13 true], [bC 2 (GTerm.q u06), (4, .cells GTerm.z [(3, .app 26)])], []⟩ (.cons (cspec_TermOk h159) (.cons (congrArg AV.bool h160) .nil)) ?_
    refine Wc.cT rfl ?_
    apply Wc.seq
    refine Wc.r0 ⟨[tP 4 4], [bC 4 (GTerm.q u06)], []⟩ ?_
    obtain rfl := Option.some.inj h; exact Wc.ret dn
  · obtain ⟨uax, h161, h⟩ := obind h
    refine Wc.r2 [{}, { r := some (.v (.bool uaw) []) }, {}, { re := some (.bool false) }, {}, { r := some (.v (.bool uax) []) }] ⟨[tI 1 u3n, tP 2 2, tP 4 4, tB 13 (!uax)], [bC 2 (GTerm.q u06), (4, .cells GTerm.z [(3, .app 26)])], []⟩ (.cons (cspec_TermOk h159) (.cons (congrArg AV.bool h160) (.cons (cspec_l01In h161) .nil))) ?_
    rcases oif h with ⟨h162, h⟩ | ⟨h162, h⟩
    · refine Wc.cT h162 ?_
      apply Wc.seq
      refine Wc.r0 ⟨[tP 4 4], [bC 4 (GTerm.q u06)], []⟩ ?_
      obtain rfl := Option.some.inj h; exact Wc.ret dn
    · refine Wc.cF h162 ?_
      refine Wc.fx [] ⟨[tI 1 u3n, tP 2 2, tP 4 4], [bC 2 (GTerm.q u06), (4, .cells GTerm.z [(3, .app 26)])], []⟩ ?_
      refine Wc.skip ?_
      apply Wc.seq
      obtain ⟨u3o, h163, h⟩ := obind h
      refine Wc.r2 [{}, {}, { r := some (.v (.agg (GTerm.q u3o)) [(3, .app 26)]) }, {}, { tk := [17] }] ⟨[tP 2 2, tP 4 4, tP 5 5], [bC 2 (GTerm.q u06), (4, .cells GTerm.z [(3, .app 26)]), (5, .cells (GTerm.q u3o) [(3, .app 26)])], []⟩ (.cons (cspec_l03Shift h163) .nil) ?_
      apply Wc.seq
      apply Wc.seq
      obtain ⟨uay, h164, h⟩ := obind h
      refine Wc.r2 [{}, { r := some (.v (.bool uay) []) }] ⟨[tP 2 2, tP 4 4, tP 5 5, tB 20 (!uay)], [bC 2 (GTerm.q u06), (4, .cells GTerm.z [(3, .app 26)]), (5, .cells (GTerm.q u3o) [(3, .app 26)])], []⟩ (.cons (cspec_TermOk h164) .nil) ?_
      rcases oif h with ⟨h165, h⟩ | ⟨h165, h⟩
      · refine Wc.cT h165 ?_
        apply Wc.seq
        refine Wc.r0 ⟨[tP 4 4], [bC 4 (GTerm.q u06)], []⟩ ?_
        obtain rfl := Option.some.inj h; exact Wc.ret dn
      · refine Wc.cF h165 ?_
        refine Wc.fx [] ⟨[tP 4 4, tP 5 5], [(4, .cells GTerm.z [(3, .app 26)]), (5, .cells (GTerm.q u3o) [(3, .app 26)])], []⟩ ?_
        refine Wc.skip ?_
        apply Wc.seq
        refine Wc.r1 [{ md := 1 }, { tk := [22] }] ⟨[tP 4 4], [(4, .cells (GTerm.q u3o) [(3, .app 26)])], []⟩ ?_
        refine Wc.fx [.un (.b 4 3)] ⟨[tP 4 4], [bC 4 (GTerm.q u3o)], []⟩ ?_
        obtain rfl := Option.some.inj h; exact Wc.ret dn

def pspec_l34Terms_L1 (k : Nat) (rspec_l34Term : GTerm → Option GTerm) (rspec_l34Terms : (List GTerm) → Option (List GTerm)) (z7 : List GTerm) : Nat → (List GTerm) → Int → Option (Out (List GTerm) (List GTerm))
  | 0, _, _ => none
  | m + 1, u0x, u29 =>
    if (decide (u29 < (z7.length : Int))) = true then
      (at' z7 u29).bind fun u88 =>
      (rspec_l34Term u88).bind fun u1r =>
      if u0x.length + [u1r].length ≤ 1073741824 then
        pspec_l34Terms_L1 k rspec_l34Term rspec_l34Terms z7 m (u0x ++ [u1r]) (wr.i64 (u29 + 1))
      else none
    else
      some (.done u0x)
mutual
def pspec_l34Term : Nat → GTerm → Option GTerm
  | 0, _ => none
  | k + 1, zx =>
    (pspec_l34Terms k zx.gKids).bind fun u89 =>
    some (GTerm.mk zx.gKind zx.gName zx.gNum u89)
def pspec_l34Terms : Nat → (List GTerm) → Option (List GTerm)
  | 0, _ => none
  | k + 1, z7 =>
    (pspec_l34Terms_L1 k (pspec_l34Term k) (pspec_l34Terms k) z7 k [] 0).bind fun out1 => match out1 with
    | .ret r => some r
    | .done u5v =>
      some u5v
end
theorem all_pspec_l34Term : ∀ k : Nat, (∀ {zx : GTerm} {r : GTerm}, pspec_l34Term k zx = some r → FnO Try.prog 22 [.v (.agg (GTerm.q zx)) []] (.v (.agg (GTerm.q r)) [(3, .app 26)]) []) ∧
    (∀ {z7 : List GTerm} {r : (List GTerm)}, pspec_l34Terms k z7 = some r → FnO Try.prog 40 [.v (.sl (List.map GTerm.c z7)) []] (.v (.sl (List.map GTerm.c r)) [(0, .app 26)]) []) := by
  intro k
  induction k with
  | zero =>
    refine ⟨?_, ?_⟩
    · intro zx r h
      exact (onone (by rw [pspec_l34Term] at h; exact h)).elim
    · intro z7 r h
      exact (onone (by rw [pspec_l34Terms] at h; exact h)).elim
  | succ k ih =>
    obtain ⟨ih_pspec_l34Term, ih_pspec_l34Terms⟩ := ih
    refine ⟨?_, ?_⟩
    · intro zx r h
      rw [pspec_l34Term] at h
      refine FnO.o2 Try.func22 (rfl : Try.f22.body = some _) ?_
      intro w0 X0 Fin pv0 pb gt
      apply Wc.seq
      refine Wc.r0 ⟨[tP 1 1, tP 2 2], [bC 1 (GTerm.q zx), (2, .cells GTerm.z [(3, .app 26)])], []⟩ ?_
      apply Wc.seq
      obtain ⟨u89, h178, h⟩ := obind h
      refine Wc.r2 [{}, {}, { r := some (.v (.sl (List.map GTerm.c u89)) [(0, .app 26)]) }, {}, { tk := [5] }] ⟨[tP 1 1, tP 2 2], [(1, .cells [aI zx.gKind, .str zx.gName, aI zx.gNum, .sl (List.map GTerm.c u89)] [(3, .app 26)]), (2, .cells GTerm.z [(3, .app 26)])], []⟩ (.cons (ih_pspec_l34Terms h178) .nil) ?_
      apply Wc.seq
      refine Wc.r1 [{ md := 1 }, { tk := [7] }] ⟨[tP 2 2], [(2, .cells [aI zx.gKind, .str zx.gName, aI zx.gNum, .sl (List.map GTerm.c u89)] [(3, .app 26)])], []⟩ ?_
      obtain rfl := Option.some.inj h; exact Wc.ret dn
    · intro z7 r h
      rw [pspec_l34Terms] at h
      refine FnO.o2 Try.func40 (rfl : Try.f40.body = some _) ?_
      intro w0 X0 Fin pv0 pb gt
      apply Wc.seq
      refine Wc.r0 ⟨[tV 0 (.sl (List.map GTerm.c z7))], [], []⟩ ?_
      apply Wc.seq
      refine Wc.r2 [{ c := some (List.map GTerm.c []) }, { tk := [5] }] ⟨[tV 0 (.sl (List.map GTerm.c z7)), (3, (.v (.sl (List.map GTerm.c [])), [(0, .app 26)]))], [], []⟩ (.cons (cl_nil GTerm.c) .nil) ?_
      apply Wc.seq
      apply Wc.seq
      refine Wc.r0 ⟨[tV 0 (.sl (List.map GTerm.c z7)), (3, (.v (.sl (List.map GTerm.c [])), [(0, .app 26)])), tI 4 0], [], []⟩ ?_
      obtain ⟨out1, h179, h⟩ := obind h
      refine Wc.lastJ (fun st => ∃ (u5v : List GTerm), out1 = .done u5v ∧ st = ⟨[(3, (.v (.sl (List.map GTerm.c u5v)), [(0, .app 26)]))], [], []⟩) ?_ ?_
      · refine Wc.block ?_
        refine Wc.loop (fun m st => ∃ (u0x : List GTerm) (u29 : Int), st = ⟨[tV 0 (.sl (List.map GTerm.c z7)), (3, (.v (.sl (List.map GTerm.c u0x)), [(0, .app 26)])), tI 4 u29], [], []⟩ ∧ pspec_l34Terms_L1 k (pspec_l34Term k) (pspec_l34Terms k) z7 m u0x u29 = some out1) ?_ k ⟨_, _, rfl, h179⟩
        rintro m st ⟨u0x, u29, rfl, h179⟩
        cases m with
        | zero => exact (onone h179).elim
        | succ m =>
          apply Wc.seq
          apply Wc.seq
          refine Wc.r2 [{}, {}, { v := some (aI (z7.length : Int)) }] ⟨[tV 0 (.sl (List.map GTerm.c z7)), (3, (.v (.sl (List.map GTerm.c u0x)), [(0, .app 26)])), tI 4 u29, tB 9 (decide (u29 < (z7.length : Int)))], [], []⟩ (.cons (len_obl GTerm.c z7) .nil) ?_
          rcases oif h179 with ⟨h180, h179⟩ | ⟨h180, h179⟩
          · refine Wc.cT h180 ?_
            refine Wc.fx [] ⟨[tV 0 (.sl (List.map GTerm.c z7)), (3, (.v (.sl (List.map GTerm.c u0x)), [(0, .app 26)])), tI 4 u29], [], []⟩ ?_
            refine Wc.skip ?_
            apply Wc.seq
            refine Wc.block ?_
            obtain ⟨u88, h181, h179⟩ := obind h179
            obtain ⟨u1r, h182, h179⟩ := obind h179
            obtain ⟨h183, h179⟩ := oguard h179
            refine Wc.r2 [{ tk := [3] }, {}, {}, { v := some (.vptr (GTerm.q u88)) }, {}, { r := some (.v (.agg (GTerm.q u1r)) [(3, .app 26)]) }, { c := some (List.map GTerm.c [u1r]) }, { c := some (List.map GTerm.c (u0x ++ [u1r])), tk := [12] }, { tk := [19] }] ⟨[tV 0 (.sl (List.map GTerm.c z7)), (3, (.v (.sl (List.map GTerm.c (u0x ++ [u1r]))), [(0, .app 26)])), tI 4 u29], [], []⟩ (.cons (at_obl (c := GTerm.c) (GTerm.c_eq u88) GTerm.c_len h181) (.cons (len_ok 4 (GTerm.q u88)) (.cons (ih_pspec_l34Term h182) (.cons (cl_cons (c := GTerm.c) (x := u1r) (GTerm.c_eq u1r) (cl_nil GTerm.c)) (.cons (app_re2 GTerm.c u0x [u1r]) (.cons (app_leaf (c := GTerm.c) (ys := [u1r]) GTerm.c_leaf) (.cons (app_obl2 (c := GTerm.c) (xs := u0x) (ys := [u1r]) GTerm.c_len h183) .nil))))))) ?_
            refine Wc.r0 ⟨[tV 0 (.sl (List.map GTerm.c z7)), (3, (.v (.sl (List.map GTerm.c (u0x ++ [u1r]))), [(0, .app 26)])), tI 4 (wr.i64 (u29 + 1))], [], []⟩ ?_
            exact ⟨_, Nat.lt_succ_self _, _, _, rfl, h179⟩
          · refine Wc.cF h180 ?_
            refine Wc.fx [] ⟨[(3, (.v (.sl (List.map GTerm.c u0x)), [(0, .app 26)]))], [], []⟩ ?_
            refine Wc.exit ?_
            obtain rfl := Option.some.inj h179
            exact ⟨_, rfl, rfl⟩
      · rintro st ⟨u5v, rfl, rfl⟩
        apply Wc.seq
        refine Wc.r1 [{ tk := [3] }, { tk := [20] }] ⟨[(2, (.v (.sl (List.map GTerm.c u5v)), [(0, .app 26)]))], [], []⟩ ?_
        obtain rfl := Option.some.inj h; exact Wc.ret dn
theorem cspec_l34Term {k : Nat} {zx : GTerm} {r : GTerm} (h : pspec_l34Term k zx = some r) : FnO Try.prog 22 [.v (.agg (GTerm.q zx)) []] (.v (.agg (GTerm.q r)) [(3, .app 26)]) [] := (all_pspec_l34Term k).1 h


def pspec_Shifted (k : Nat) (u8a : GTerm) (u8b : Int) : Option GTerm :=
  (pspec_l03ShiftedRaw k u8a u8b).bind fun uaz =>
  (pspec_l34Term k uaz).bind fun ub0 =>
  some ub0
theorem cspec_Shifted {k : Nat} {u8a : GTerm} {u8b : Int} {r : GTerm} (h : pspec_Shifted k u8a u8b = some r) : FnO Try.prog 7 [.v (.agg (GTerm.q u8a)) [], .v (aI u8b) []] (.v (.agg (GTerm.q r)) [(3, .app 26)]) [] := by
  refine FnO.o2 Try.func7 (rfl : Try.f7.body = some _) ?_
  intro w0 X0 Fin pv0 pb gt
  unfold pspec_Shifted at h
  apply Wc.seq
  refine Wc.r0 ⟨[tI 1 u8b, tP 2 2, tP 4 4], [bC 2 (GTerm.q u8a), (4, .cells GTerm.z [(3, .app 26)])], []⟩ ?_
  apply Wc.seq
  obtain ⟨uaz, h186, h⟩ := obind h
  refine Wc.r2 [{}, {}, { r := some (.v (.agg (GTerm.q uaz)) []) }] ⟨[tP 4 4, tP 5 5], [(4, .cells GTerm.z [(3, .app 26)]), bC 5 (GTerm.q uaz)], []⟩ (.cons (cspec_l03ShiftedRaw h186) .nil) ?_
  apply Wc.seq
  obtain ⟨ub0, h187, h⟩ := obind h
  refine Wc.r2 [{}, { r := some (.v (.agg (GTerm.q ub0)) [(3, .app 26)]) }, { tk := [10] }] ⟨[tP 4 4], [(4, .cells (GTerm.q ub0) [(3, .app 26)])], []⟩ (.cons (cspec_l34Term h187) .nil) ?_
  obtain rfl := Option.some.inj h; exact Wc.ret dn

def pimpl_copyTerm_1 (k : Nat) (u5w : Int) : Option Int :=
  some u5w
theorem cimpl_copyTerm_1 {k : Nat} {u5w : Int} {r : Int} (h : pimpl_copyTerm_1 k u5w = some r) : FnO Try.prog 51 [.v (aI u5w) []] (.v (aI r) []) [] := by
  refine FnO.o2 Try.func51 (rfl : Try.f51.body = some _) ?_
  intro w0 X0 Fin pv0 pb gt
  unfold pimpl_copyTerm_1 at h
  apply Wc.seq
  refine Wc.r0 ⟨[tI 0 u5w], [], []⟩ ?_
  apply Wc.seq
  refine Wc.r0 ⟨[tI 2 u5w], [], []⟩ ?_
  obtain rfl := Option.some.inj h; exact Wc.ret dn

def pimpl_renamed_on1_pimpl_copyTerm_1_L2 (k : Nat) (rimpl_renamed_on1_pimpl_copyTerm_1 : GTerm → Option GTerm) (u9 : GTerm) : Nat → Int → GTerm → Option (Out GTerm GTerm)
  | 0, _, _ => none
  | m + 1, u1s, z8 =>
    if (decide (u1s < (u9.gKids.length : Int))) = true then
      (at' u9.gKids u1s).bind fun u1t =>
      (rimpl_renamed_on1_pimpl_copyTerm_1 u1t).bind fun z1 =>
      if z8.gKids.length + [z1].length ≤ 1073741824 then
        pimpl_renamed_on1_pimpl_copyTerm_1_L2 k rimpl_renamed_on1_pimpl_copyTerm_1 u9 m (wr.i64 (u1s + 1)) (GTerm.mk z8.gKind z8.gName z8.gNum (z8.gKids ++ [z1]))
      else none
    else
      some (.done z8)
def pimpl_renamed_on1_pimpl_copyTerm_1_J1 (k : Nat) (rimpl_renamed_on1_pimpl_copyTerm_1 : GTerm → Option GTerm) (u9 : GTerm) (u5x : GTerm) : Option GTerm :=
  (pimpl_renamed_on1_pimpl_copyTerm_1_L2 k rimpl_renamed_on1_pimpl_copyTerm_1 u9 k 0 u5x).bind fun out2 => match out2 with
  | .ret r => some r
  | .done u5y =>
    some u5y
mutual
def pimpl_renamed_on1_pimpl_copyTerm_1 : Nat → GTerm → Option GTerm
  | 0, _ => none
  | k + 1, u9 =>
    if (u9.gKind == 1) = true then
      (pimpl_copyTerm_1 k u9.gNum).bind fun u2a =>
      pimpl_renamed_on1_pimpl_copyTerm_1_J1 k (pimpl_renamed_on1_pimpl_copyTerm_1 k) u9 (GTerm.mk u9.gKind u9.gName u2a [])
    else
      pimpl_renamed_on1_pimpl_copyTerm_1_J1 k (pimpl_renamed_on1_pimpl_copyTerm_1 k) u9 (GTerm.mk u9.gKind u9.gName u9.gNum [])
end
set_option maxHeartbeats 4000000 in


def pimpl_copyTerm (k : Nat) (u8c : GTerm) : Option GTerm :=
  (pimpl_renamed_on1_pimpl_copyTerm_1 k u8c).bind fun ub1 =>
  some ub1


def pimpl_copyTerms_L1 (k : Nat) (vx : List GTerm) : Nat → (List GTerm) → Int → Option (Out (List GTerm) (List GTerm))
  | 0, _, _ => none
  | m + 1, u0h, u1u =>
    if (decide (u1u < (vx.length : Int))) = true then
      (at' vx u1u).bind fun u1t =>
      (pimpl_copyTerm k u1t).bind fun z1 =>
      if u0h.length + [z1].length ≤ 1073741824 then
        pimpl_copyTerms_L1 k vx m (u0h ++ [z1]) (wr.i64 (u1u + 1))
      else none
    else
      some (.done u0h)
def pimpl_copyTerms (k : Nat) (vx : List GTerm) : Option (List GTerm) :=
  (pimpl_copyTerms_L1 k vx k [] 0).bind fun out1 => match out1 with
  | .ret r => some r
  | .done u5z =>
    some u5z


def pimpl_within (k : Nat) (u2a : Int) (u8d : Int) (u60 : Int) : Option Bool :=
  if (decide (u2a ≥ u8d)) = true then
    some (decide (u2a ≤ u60))
  else
    some false
theorem cimpl_within {k : Nat} {u2a : Int} {u8d : Int} {u60 : Int} {r : Bool} (h : pimpl_within k u2a u8d u60 = some r) : FnO Try.prog 52 [.v (aI u2a) [], .v (aI u8d) [], .v (aI u60) []] (.v (.bool r) []) [] := by
  refine FnO.o2 Try.func52 (rfl : Try.f52.body = some _) ?_
  intro w0 X0 Fin pv0 pb gt
  unfold pimpl_within at h
  apply Wc.seq
  refine Wc.r0 ⟨[tI 0 u2a, tI 1 u8d, tI 2 u60], [], []⟩ ?_
  apply Wc.seq
  rcases oif h with ⟨h200, h⟩ | ⟨h200, h⟩
  · refine Wc.r2 [{}, {}, {}, { re := some (.bool true) }] ⟨[tB 6 (decide (u2a ≤ u60))], [], []⟩ (.cons (congrArg AV.bool h200) .nil) ?_
    obtain rfl := Option.some.inj h; exact Wc.ret dn
  · refine Wc.r2 [{}, {}, {}, { re := some (.bool false) }] ⟨[tB 6 false], [], []⟩ (.cons (congrArg AV.bool h200) .nil) ?_
    obtain rfl := Option.some.inj h; exact Wc.ret dn

def pimpl_nameOk_L1 (k : Nat) (vr : ByteArray) : Nat → Int → Option (Out Bool Unit)
  | 0, _ => none
  | m + 1, ze =>
    if (decide (ze < (vr.size : Int))) = true then
      if 0 ≤ ze ∧ (ze).toNat < vr.size then
        (pimpl_within k (wr.i64 (bt vr ze)) 33 126).bind fun u8e =>
        if (!u8e) = true then
          some (.ret false)
        else
          if 0 ≤ ze ∧ (ze).toNat < vr.size then
            if ((bt vr ze) == 39) = true then
              some (.ret false)
            else
              if 0 ≤ ze ∧ (ze).toNat < vr.size then
                if ((bt vr ze) == 34) = true then
                  some (.ret false)
                else
                  pimpl_nameOk_L1 k vr m (wr.i64 (ze + 1))
              else none
          else none
      else none
    else
      some (.done ())
def pimpl_nameOk (k : Nat) (vr : ByteArray) : Option Bool :=
  (pimpl_nameOk_L1 k vr k 0).bind fun out1 => match out1 with
  | .ret r => some r
  | .done () =>
    (pimpl_within k (vr.size : Int) 1 20).bind fun ub2 =>
    some ub2
theorem cimpl_nameOk {k : Nat} {vr : ByteArray} {r : Bool} (h : pimpl_nameOk k vr = some r) : FnO Try.prog 60 [.v (.str vr) []] (.v (.bool r) []) [] := by
  refine FnO.o2 Try.func60 (rfl : Try.f60.body = some _) ?_
  intro w0 X0 Fin pv0 pb gt
  unfold pimpl_nameOk at h
  apply Wc.seq
  refine Wc.r0 ⟨[tS 0 vr], [], []⟩ ?_
  apply Wc.seq
  apply Wc.seq
  refine Wc.r0 ⟨[tS 0 vr, tI 3 0], [], []⟩ ?_
  obtain ⟨out1, h201, h⟩ := obind h
  refine Wc.lastJ (fun st => out1 = .done () ∧ st = ⟨[tS 0 vr], [], []⟩) ?_ ?_
  · refine Wc.block ?_
    refine Wc.loop (fun m st => ∃ (ze : Int), st = ⟨[tS 0 vr, tI 3 ze], [], []⟩ ∧ pimpl_nameOk_L1 k vr m ze = some out1) ?_ k ⟨_, rfl, h201⟩
    rintro m st ⟨ze, rfl, h201⟩
    cases m with
    | zero => exact (onone h201).elim
    | succ m =>
      apply Wc.seq
      apply Wc.seq
      refine Wc.r0 ⟨[tS 0 vr, tI 3 ze, tB 7 (decide (ze < (vr.size : Int)))], [], []⟩ ?_
      rcases oif h201 with ⟨h202, h201⟩ | ⟨h202, h201⟩
      · refine Wc.cT h202 ?_
        refine Wc.fx [] ⟨[tS 0 vr, tI 3 ze], [], []⟩ ?_
        refine Wc.skip ?_
        apply Wc.seq
        refine Wc.block ?_
        apply Wc.seq
        obtain ⟨h203, h201⟩ := oguard h201
        obtain ⟨u8e, h204, h201⟩ := obind h201
        rcases oif h201 with ⟨h205, h201⟩ | ⟨h205, h201⟩
        · refine Wc.r2 [{}, {}, {}, {}, { r := some (.v (.bool u8e) []) }, {}, { re := some (.bool true) }] ⟨[tS 0 vr, tI 3 ze, tB 27 true], [], []⟩ (.cons h203 (.cons (cimpl_within h204) (.cons (congrArg AV.bool h205) .nil))) ?_
          refine Wc.cT rfl ?_
          apply Wc.seq
          refine Wc.r0 ⟨[tB 2 false], [], []⟩ ?_
          refine Wc.ret ?_
          obtain rfl := Option.some.inj h201
          obtain rfl := Option.some.inj h
          exact ⟨.inl rfl, by kernel_rfl, by kernel_rfl⟩
        · obtain ⟨h206, h201⟩ := oguard h201
          rcases oif h201 with ⟨h207, h201⟩ | ⟨h207, h201⟩
          · refine Wc.r2 [{}, {}, {}, {}, { r := some (.v (.bool u8e) []) }, {}, { re := some (.bool false) }, {}, {}, {}, {}, {}, { re := some (.bool true) }] ⟨[tS 0 vr, tI 3 ze, tB 27 true], [], []⟩ (.cons h203 (.cons (cimpl_within h204) (.cons (congrArg AV.bool h205) (.cons h206 (.cons (congrArg AV.bool h207) .nil))))) ?_
            refine Wc.cT rfl ?_
            apply Wc.seq
            refine Wc.r0 ⟨[tB 2 false], [], []⟩ ?_
            refine Wc.ret ?_
            obtain rfl := Option.some.inj h201
            obtain rfl := Option.some.inj h
            exact ⟨.inl rfl, by kernel_rfl, by kernel_rfl⟩
          · obtain ⟨h208, h201⟩ := oguard h201
            refine Wc.r2 [{}, {}, {}, {}, { r := some (.v (.bool u8e) []) }, {}, { re := some (.bool false) }, {}, {}, {}, {}, {}, { re := some (.bool false) }] ⟨[tS 0 vr, tI 3 ze, tB 27 ((bt vr ze) == 34)], [], []⟩ (.cons h203 (.cons (cimpl_within h204) (.cons (congrArg AV.bool h205) (.cons h206 (.cons (congrArg AV.bool h207) (.cons h208 .nil)))))) ?_
            rcases oif h201 with ⟨h209, h201⟩ | ⟨h209, h201⟩
            · refine Wc.cT h209 ?_
              apply Wc.seq
              refine Wc.r0 ⟨[tB 2 false], [], []⟩ ?_
              refine Wc.ret ?_
              obtain rfl := Option.some.inj h201
              obtain rfl := Option.some.inj h
              exact ⟨.inl rfl, by kernel_rfl, by kernel_rfl⟩
            · refine Wc.cF h209 ?_
              refine Wc.fx [] ⟨[tS 0 vr, tI 3 ze], [], []⟩ ?_
              refine Wc.skip ?_
              refine Wc.r0 ⟨[tS 0 vr, tI 3 (wr.i64 (ze + 1))], [], []⟩ ?_
              exact ⟨_, Nat.lt_succ_self _, _, rfl, h201⟩
      · refine Wc.cF h202 ?_
        refine Wc.fx [] ⟨[tS 0 vr], [], []⟩ ?_
        refine Wc.exit ?_
        obtain rfl := Option.some.inj h201
        exact ⟨rfl, rfl⟩
  · rintro st ⟨rfl, rfl⟩
    apply Wc.seq
    obtain ⟨ub2, h210, h⟩ := obind h
    refine Wc.r2 [{}, {}, { r := some (.v (.bool ub2) []) }] ⟨[tB 2 ub2], [], []⟩ (.cons (cimpl_within h210) .nil) ?_
    obtain rfl := Option.some.inj h; exact Wc.ret dn

def pimpl_sized_L2 (k : Nat) (rimpl_sized : GTerm → Int → Option Int) (u1 : GTerm) (uh : Int) : Nat → Int → Int → Option (Out Int Int)
  | 0, _, _ => none
  | m + 1, u0i, u0y =>
    if (decide (u0y < (u1.gKids.length : Int))) = true then
      (at' u1.gKids u0y).bind fun u61 =>
      (rimpl_sized u61 (wr.i64 (uh + 1))).bind fun u3p =>
      if (decide ((wr.i64 (u0i + u3p)) > 400)) = true then
        some (.ret 401)
      else
        pimpl_sized_L2 k rimpl_sized u1 uh m (wr.i64 (u0i + u3p)) (wr.i64 (u0y + 1))
    else
      some (.done u0i)
def pimpl_sized_J1 (k : Nat) (rimpl_sized : GTerm → Int → Option Int) (u1 : GTerm) (uh : Int) : Option Int :=
  (pimpl_sized_L2 k rimpl_sized u1 uh k 1 0).bind fun out2 => match out2 with
  | .ret r => some r
  | .done u62 =>
    some u62
mutual
def pimpl_sized : Nat → GTerm → Int → Option Int
  | 0, _, _ => none
  | k + 1, u1, uh =>
    if (decide (uh > 40)) = true then
      some 401
    else
      if (u1.gKind == 1) = true then
        if (!(sEq u1.gName (bs []))) = true then
          some 401
        else
          (pimpl_within k u1.gNum 0 99999).bind fun ub3 =>
          if (!ub3) = true then
            some 401
          else
            if (decide ((u1.gKids.length : Int) > 0)) = true then
              some 401
            else
              pimpl_sized_J1 k (pimpl_sized k) u1 uh
      else
        if (u1.gKind == 2) = true then
          (pimpl_nameOk k u1.gName).bind fun u8f =>
          if (!u8f) = true then
            some 401
          else
            if (u1.gNum != 0) = true then
              some 401
            else
              if (decide ((u1.gKids.length : Int) > 0)) = true then
                some 401
              else
                pimpl_sized_J1 k (pimpl_sized k) u1 uh
        else
          if (u1.gKind == 3) = true then
            if (!(sEq u1.gName (bs []))) = true then
              some 401
            else
              (pimpl_within k u1.gNum (-999999999) 999999999).bind fun ub4 =>
              if (!ub4) = true then
                some 401
              else
                if (decide ((u1.gKids.length : Int) > 0)) = true then
                  some 401
                else
                  pimpl_sized_J1 k (pimpl_sized k) u1 uh
          else
            if (u1.gKind == 4) = true then
              (pimpl_nameOk k u1.gName).bind fun u8g =>
              if (!u8g) = true then
                some 401
              else
                if (u1.gNum != 0) = true then
                  some 401
                else
                  (pimpl_within k (u1.gKids.length : Int) 1 5).bind fun ub5 =>
                  if (!ub5) = true then
                    some 401
                  else
                    pimpl_sized_J1 k (pimpl_sized k) u1 uh
            else
              some 401
end
set_option maxHeartbeats 4000000 in
theorem all_pimpl_sized : ∀ k : Nat, (∀ {u1 : GTerm} {uh : Int} {r : Int}, pimpl_sized k u1 uh = some r → FnO Try.prog 41 [.v (.agg (GTerm.q u1)) [], .v (aI uh) []] (.v (aI r) []) []) := by
  intro k
  induction k with
  | zero =>
    · intro u1 uh r h
      exact (onone (by rw [pimpl_sized] at h; exact h)).elim
  | succ k ih =>
    have ih_pimpl_sized := @ih
    · intro u1 uh r h
      rw [pimpl_sized] at h
      refine FnO.o2 Try.func41 (rfl : Try.f41.body = some _) ?_
      intro w0 X0 Fin pv0 pb gt
      apply Wc.seq
      refine Wc.r0 ⟨[tI 1 uh, tP 2 2], [bC 2 (GTerm.q u1)], []⟩ ?_
      apply Wc.seq
      apply Wc.seq
      refine Wc.r0 ⟨[tI 1 uh, tP 2 2, tB 9 (decide (uh > 40))], [bC 2 (GTerm.q u1)], []⟩ ?_
      rcases oif h with ⟨h211, h⟩ | ⟨h211, h⟩
      · refine Wc.cT h211 ?_
        apply Wc.seq
        refine Wc.r0 ⟨[tI 4 401], [], []⟩ ?_
        obtain rfl := Option.some.inj h; exact Wc.ret dn
      · refine Wc.cF h211 ?_
        refine Wc.fx [] ⟨[tI 1 uh, tP 2 2], [bC 2 (GTerm.q u1)], []⟩ ?_
        refine Wc.skip ?_
        refine Wc.seqJ (fun st => st = ⟨[tI 1 uh, tP 2 2], [bC 2 (GTerm.q u1)], []⟩ ∧ pimpl_sized_J1 k (pimpl_sized k) u1 uh = some r) ?_ ?_
        · apply Wc.seq
          refine Wc.r0 ⟨[tI 1 uh, tP 2 2, tI 11 u1.gKind], [bC 2 (GTerm.q u1)], []⟩ ?_
          refine Wc.block ?_
          apply Wc.seq
          refine Wc.r0 ⟨[tI 1 uh, tP 2 2, tI 11 u1.gKind, tB 12 (u1.gKind == 1)], [bC 2 (GTerm.q u1)], []⟩ ?_
          rcases oif h with ⟨h217, h⟩ | ⟨h217, h⟩
          · refine Wc.cT h217 ?_
            apply Wc.seq
            rcases oif h with ⟨h218, h⟩ | ⟨h218, h⟩
            · refine Wc.r2 [{}, {}, {}, { re := some (.bool true) }] ⟨[tI 1 uh, tP 2 2, tB 28 true], [bC 2 (GTerm.q u1)], []⟩ (.cons (congrArg AV.bool h218) .nil) ?_
              refine Wc.cT rfl ?_
              apply Wc.seq
              refine Wc.r0 ⟨[tI 4 401], [], []⟩ ?_
              obtain rfl := Option.some.inj h; exact Wc.ret dn
            · obtain ⟨ub3, h219, h⟩ := obind h
              rcases oif h with ⟨h220, h⟩ | ⟨h220, h⟩
              · refine Wc.r2 [{}, {}, {}, { re := some (.bool false) }, {}, {}, { r := some (.v (.bool ub3) []) }, {}, {}, { re := some (.bool true) }] ⟨[tI 1 uh, tP 2 2, tB 28 true], [bC 2 (GTerm.q u1)], []⟩ (.cons (congrArg AV.bool h218) (.cons (cimpl_within h219) (.cons (congrArg AV.bool h220) .nil))) ?_
                refine Wc.cT rfl ?_
                apply Wc.seq
                refine Wc.r0 ⟨[tI 4 401], [], []⟩ ?_
                obtain rfl := Option.some.inj h; exact Wc.ret dn
              · refine Wc.r2 [{}, {}, {}, { re := some (.bool false) }, {}, {}, { r := some (.v (.bool ub3) []) }, {}, {}, { re := some (.bool false) }, {}, {}, { v := some (aI (u1.gKids.length : Int)) }] ⟨[tI 1 uh, tP 2 2, tB 28 (decide ((u1.gKids.length : Int) > 0))], [bC 2 (GTerm.q u1)], []⟩ (.cons (congrArg AV.bool h218) (.cons (cimpl_within h219) (.cons (congrArg AV.bool h220) (.cons (len_obl GTerm.c u1.gKids) .nil)))) ?_
                rcases oif h with ⟨h221, h⟩ | ⟨h221, h⟩
                · refine Wc.cT h221 ?_
                  apply Wc.seq
                  refine Wc.r0 ⟨[tI 4 401], [], []⟩ ?_
                  obtain rfl := Option.some.inj h; exact Wc.ret dn
                · refine Wc.cF h221 ?_
                  refine Wc.fx [] ⟨[tI 1 uh, tP 2 2], [bC 2 (GTerm.q u1)], []⟩ ?_
                  refine Wc.skip ?_
                  exact ⟨rfl, h⟩
          · refine Wc.cF h217 ?_
            apply Wc.seq
            refine Wc.r0 ⟨[tI 1 uh, tP 2 2, tI 11 u1.gKind, tB 29 (u1.gKind == 2)], [bC 2 (GTerm.q u1)], []⟩ ?_
            rcases oif h with ⟨h222, h⟩ | ⟨h222, h⟩
            · refine Wc.cT h222 ?_
              apply Wc.seq
              obtain ⟨u8f, h223, h⟩ := obind h
              rcases oif h with ⟨h224, h⟩ | ⟨h224, h⟩
              · refine Wc.r2 [{}, {}, { r := some (.v (.bool u8f) []) }, {}, { re := some (.bool true) }] ⟨[tI 1 uh, tP 2 2, tB 45 true], [bC 2 (GTerm.q u1)], []⟩ (.cons (cimpl_nameOk h223) (.cons (congrArg AV.bool h224) .nil)) ?_
                refine Wc.cT rfl ?_
                apply Wc.seq
                refine Wc.r0 ⟨[tI 4 401], [], []⟩ ?_
                obtain rfl := Option.some.inj h; exact Wc.ret dn
              · rcases oif h with ⟨h225, h⟩ | ⟨h225, h⟩
                · refine Wc.r2 [{}, {}, { r := some (.v (.bool u8f) []) }, {}, { re := some (.bool false) }, {}, {}, {}, {}, { re := some (.bool true) }] ⟨[tI 1 uh, tP 2 2, tB 45 true], [bC 2 (GTerm.q u1)], []⟩ (.cons (cimpl_nameOk h223) (.cons (congrArg AV.bool h224) (.cons (congrArg AV.bool h225) .nil))) ?_
                  refine Wc.cT rfl ?_
                  apply Wc.seq
                  refine Wc.r0 ⟨[tI 4 401], [], []⟩ ?_
                  obtain rfl := Option.some.inj h; exact Wc.ret dn
                · refine Wc.r2 [{}, {}, { r := some (.v (.bool u8f) []) }, {}, { re := some (.bool false) }, {}, {}, {}, {}, { re := some (.bool false) }, {}, {}, { v := some (aI (u1.gKids.length : Int)) }] ⟨[tI 1 uh, tP 2 2, tB 45 (decide ((u1.gKids.length : Int) > 0))], [bC 2 (GTerm.q u1)], []⟩ (.cons (cimpl_nameOk h223) (.cons (congrArg AV.bool h224) (.cons (congrArg AV.bool h225) (.cons (len_obl GTerm.c u1.gKids) .nil)))) ?_
                  rcases oif h with ⟨h226, h⟩ | ⟨h226, h⟩
                  · refine Wc.cT h226 ?_
                    apply Wc.seq
                    refine Wc.r0 ⟨[tI 4 401], [], []⟩ ?_
                    obtain rfl := Option.some.inj h; exact Wc.ret dn
                  · refine Wc.cF h226 ?_
                    refine Wc.fx [] ⟨[tI 1 uh, tP 2 2], [bC 2 (GTerm.q u1)], []⟩ ?_
                    refine Wc.skip ?_
                    exact ⟨rfl, h⟩
            · refine Wc.cF h222 ?_
              apply Wc.seq
              refine Wc.r0 ⟨[tI 1 uh, tP 2 2, tI 11 u1.gKind, tB 46 (u1.gKind == 3)], [bC 2 (GTerm.q u1)], []⟩ ?_
              rcases oif h with ⟨h227, h⟩ | ⟨h227, h⟩
              · refine Wc.cT h227 ?_
                apply Wc.seq
                rcases oif h with ⟨h228, h⟩ | ⟨h228, h⟩
                · refine Wc.r2 [{}, {}, {}, { re := some (.bool true) }] ⟨[tI 1 uh, tP 2 2, tB 62 true], [bC 2 (GTerm.q u1)], []⟩ (.cons (congrArg AV.bool h228) .nil) ?_
                  refine Wc.cT rfl ?_
                  apply Wc.seq
                  refine Wc.r0 ⟨[tI 4 401], [], []⟩ ?_
                  obtain rfl := Option.some.inj h; exact Wc.ret dn
                · obtain ⟨ub4, h229, h⟩ := obind h
                  rcases oif h with ⟨h230, h⟩ | ⟨h230, h⟩
                  · refine Wc.r2 [{}, {}, {}, { re := some (.bool false) }, {}, {}, { r := some (.v (.bool ub4) []) }, {}, {}, { re := some (.bool true) }] ⟨[tI 1 uh, tP 2 2, tB 62 true], [bC 2 (GTerm.q u1)], []⟩ (.cons (congrArg AV.bool h228) (.cons (cimpl_within h229) (.cons (congrArg AV.bool h230) .nil))) ?_
                    refine Wc.cT rfl ?_
                    apply Wc.seq
                    refine Wc.r0 ⟨[tI 4 401], [], []⟩ ?_
                    obtain rfl := Option.some.inj h; exact Wc.ret dn
                  · refine Wc.r2 [{}, {}, {}, { re := some (.bool false) }, {}, {}, { r := some (.v (.bool ub4) []) }, {}, {}, { re := some (.bool false) }, {}, {}, { v := some (aI (u1.gKids.length : Int)) }] ⟨[tI 1 uh, tP 2 2, tB 62 (decide ((u1.gKids.length : Int) > 0))], [bC 2 (GTerm.q u1)], []⟩ (.cons (congrArg AV.bool h228) (.cons (cimpl_within h229) (.cons (congrArg AV.bool h230) (.cons (len_obl GTerm.c u1.gKids) .nil)))) ?_
                    rcases oif h with ⟨h231, h⟩ | ⟨h231, h⟩
                    · refine Wc.cT h231 ?_
                      apply Wc.seq
                      refine Wc.r0 ⟨[tI 4 401], [], []⟩ ?_
                      obtain rfl := Option.some.inj h; exact Wc.ret dn
                    · refine Wc.cF h231 ?_
                      refine Wc.fx [] ⟨[tI 1 uh, tP 2 2], [bC 2 (GTerm.q u1)], []⟩ ?_
                      refine Wc.skip ?_
                      exact ⟨rfl, h⟩
              · refine Wc.cF h227 ?_
                apply Wc.seq
                refine Wc.r0 ⟨[tI 1 uh, tP 2 2, tB 63 (u1.gKind == 4)], [bC 2 (GTerm.q u1)], []⟩ ?_
                rcases oif h with ⟨h232, h⟩ | ⟨h232, h⟩
                · refine Wc.cT h232 ?_
                  apply Wc.seq
                  obtain ⟨u8g, h233, h⟩ := obind h
                  rcases oif h with ⟨h234, h⟩ | ⟨h234, h⟩
                  · refine Wc.r2 [{}, {}, { r := some (.v (.bool u8g) []) }, {}, { re := some (.bool true) }] ⟨[tI 1 uh, tP 2 2, tB 80 true], [bC 2 (GTerm.q u1)], []⟩ (.cons (cimpl_nameOk h233) (.cons (congrArg AV.bool h234) .nil)) ?_
                    refine Wc.cT rfl ?_
                    apply Wc.seq
                    refine Wc.r0 ⟨[tI 4 401], [], []⟩ ?_
                    obtain rfl := Option.some.inj h; exact Wc.ret dn
                  · rcases oif h with ⟨h235, h⟩ | ⟨h235, h⟩
                    · refine Wc.r2 [{}, {}, { r := some (.v (.bool u8g) []) }, {}, { re := some (.bool false) }, {}, {}, {}, {}, { re := some (.bool true) }] ⟨[tI 1 uh, tP 2 2, tB 80 true], [bC 2 (GTerm.q u1)], []⟩ (.cons (cimpl_nameOk h233) (.cons (congrArg AV.bool h234) (.cons (congrArg AV.bool h235) .nil))) ?_
                      refine Wc.cT rfl ?_
                      apply Wc.seq
                      refine Wc.r0 ⟨[tI 4 401], [], []⟩ ?_
                      obtain rfl := Option.some.inj h; exact Wc.ret dn
                    · obtain ⟨ub5, h236, h⟩ := obind h
                      refine Wc.r2 [{}, {}, { r := some (.v (.bool u8g) []) }, {}, { re := some (.bool false) }, {}, {}, {}, {}, { re := some (.bool false) }, {}, {}, { v := some (aI (u1.gKids.length : Int)) }, { r := some (.v (.bool ub5) []) }] ⟨[tI 1 uh, tP 2 2, tB 80 (!ub5)], [bC 2 (GTerm.q u1)], []⟩ (.cons (cimpl_nameOk h233) (.cons (congrArg AV.bool h234) (.cons (congrArg AV.bool h235) (.cons (len_obl GTerm.c u1.gKids) (.cons (cimpl_within h236) .nil))))) ?_
                      rcases oif h with ⟨h237, h⟩ | ⟨h237, h⟩
                      · refine Wc.cT h237 ?_
                        apply Wc.seq
                        refine Wc.r0 ⟨[tI 4 401], [], []⟩ ?_
                        obtain rfl := Option.some.inj h; exact Wc.ret dn
                      · refine Wc.cF h237 ?_
                        refine Wc.fx [] ⟨[tI 1 uh, tP 2 2], [bC 2 (GTerm.q u1)], []⟩ ?_
                        refine Wc.skip ?_
                        exact ⟨rfl, h⟩
                · refine Wc.cF h232 ?_
                  apply Wc.seq
                  refine Wc.r0 ⟨[tI 4 401], [], []⟩ ?_
                  obtain rfl := Option.some.inj h; exact Wc.ret dn
        · rintro st ⟨rfl, h⟩
          apply Wc.seq
          refine Wc.r0 ⟨[tI 1 uh, tP 2 2, tI 5 1], [bC 2 (GTerm.q u1)], []⟩ ?_
          apply Wc.seq
          apply Wc.seq
          refine Wc.r2 [{}, {}, { v := some (aI (u1.gKids.length : Int)) }] ⟨[tI 1 uh, tI 5 1, tV 82 (.sl (List.map GTerm.c u1.gKids)), tI 83 (u1.gKids.length : Int), tI 84 0], [], []⟩ (.cons (len_obl GTerm.c u1.gKids) .nil) ?_
          obtain ⟨out2, h212, h⟩ := obind h
          refine Wc.lastJ (fun st => ∃ (u62 : Int), out2 = .done u62 ∧ st = ⟨[tI 5 u62], [], []⟩) ?_ ?_
          · refine Wc.block ?_
            refine Wc.loop (fun m st => ∃ (u0i : Int) (u0y : Int), st = ⟨[tI 1 uh, tI 5 u0i, tV 82 (.sl (List.map GTerm.c u1.gKids)), tI 83 (u1.gKids.length : Int), tI 84 u0y], [], []⟩ ∧ pimpl_sized_L2 k (pimpl_sized k) u1 uh m u0i u0y = some out2) ?_ k ⟨_, _, rfl, h212⟩
            rintro m st ⟨u0i, u0y, rfl, h212⟩
            cases m with
            | zero => exact (onone h212).elim
            | succ m =>
              apply Wc.seq
              refine Wc.r0 ⟨[tI 1 uh, tI 5 u0i, tV 82 (.sl (List.map GTerm.c u1.gKids)), tI 83 (u1.gKids.length : Int), tI 84 u0y, tB 85 (decide (u0y < (u1.gKids.length : Int)))], [], []⟩ ?_
              apply Wc.seq
              rcases oif h212 with ⟨h213, h212⟩ | ⟨h213, h212⟩
              · refine Wc.cT h213 ?_
                refine Wc.fx [] ⟨[tI 1 uh, tI 5 u0i, tV 82 (.sl (List.map GTerm.c u1.gKids)), tI 83 (u1.gKids.length : Int), tI 84 u0y], [], []⟩ ?_
                refine Wc.skip ?_
                apply Wc.seq
                refine Wc.block ?_
                apply Wc.seq
                obtain ⟨u61, h214, h212⟩ := obind h212
                refine Wc.r2 [{ v := some (.vptr (GTerm.q u61)) }] ⟨[tI 1 uh, tI 5 u0i, tP 7 7, tV 82 (.sl (List.map GTerm.c u1.gKids)), tI 83 (u1.gKids.length : Int), tI 84 u0y], [bC 7 (GTerm.q u61)], []⟩ (.cons (at_obl (c := GTerm.c) (GTerm.c_eq u61) GTerm.c_len h214) (.cons (len_ok 4 (GTerm.q u61)) .nil)) ?_
                apply Wc.seq
                obtain ⟨u3p, h215, h212⟩ := obind h212
                refine Wc.r2 [{}, {}, {}, {}, { r := some (.v (aI u3p) []) }] ⟨[tI 1 uh, tI 5 (wr.i64 (u0i + u3p)), tV 82 (.sl (List.map GTerm.c u1.gKids)), tI 83 (u1.gKids.length : Int), tI 84 u0y], [], []⟩ (.cons (ih_pimpl_sized h215) .nil) ?_
                apply Wc.seq
                refine Wc.r0 ⟨[tI 1 uh, tI 5 (wr.i64 (u0i + u3p)), tV 82 (.sl (List.map GTerm.c u1.gKids)), tI 83 (u1.gKids.length : Int), tI 84 u0y, tB 95 (decide ((wr.i64 (u0i + u3p)) > 400))], [], []⟩ ?_
                rcases oif h212 with ⟨h216, h212⟩ | ⟨h216, h212⟩
                · refine Wc.cT h216 ?_
                  apply Wc.seq
                  refine Wc.r0 ⟨[tI 4 401], [], []⟩ ?_
                  refine Wc.ret ?_
                  obtain rfl := Option.some.inj h212
                  obtain rfl := Option.some.inj h
                  exact ⟨.inl rfl, by kernel_rfl, by kernel_rfl⟩
                · refine Wc.cF h216 ?_
                  refine Wc.fx [] ⟨[tI 1 uh, tI 5 (wr.i64 (u0i + u3p)), tV 82 (.sl (List.map GTerm.c u1.gKids)), tI 83 (u1.gKids.length : Int), tI 84 u0y], [], []⟩ ?_
                  refine Wc.skip ?_
                  refine Wc.r0 ⟨[tI 1 uh, tI 5 (wr.i64 (u0i + u3p)), tV 82 (.sl (List.map GTerm.c u1.gKids)), tI 83 (u1.gKids.length : Int), tI 84 (wr.i64 (u0y + 1))], [], []⟩ ?_
                  exact ⟨_, Nat.lt_succ_self _, _, _, rfl, h212⟩
              · refine Wc.cF h213 ?_
                refine Wc.fx [] ⟨[tI 5 u0i], [], []⟩ ?_
                refine Wc.exit ?_
                obtain rfl := Option.some.inj h212
                exact ⟨_, rfl, rfl⟩
          · rintro st ⟨u62, rfl, rfl⟩
            apply Wc.seq
            refine Wc.r0 ⟨[tI 4 u62], [], []⟩ ?_
            obtain rfl := Option.some.inj h; exact Wc.ret dn
theorem cimpl_sized {k : Nat} {u1 : GTerm} {uh : Int} {r : Int} (h : pimpl_sized k u1 uh = some r) : FnO Try.prog 41 [.v (.agg (GTerm.q u1)) [], .v (aI uh) []] (.v (aI r) []) [] := (all_pimpl_sized k) h

def pimpl_TermOk (k : Nat) (u8h : GTerm) : Option Bool :=
  (pimpl_sized k u8h 1).bind fun ub6 =>
  some (decide (ub6 ≤ 400))
theorem cimpl_TermOk {k : Nat} {u8h : GTerm} {r : Bool} (h : pimpl_TermOk k u8h = some r) : FnO Try.prog 24 [.v (.agg (GTerm.q u8h)) []] (.v (.bool r) []) [] := by
  refine FnO.o2 Try.func24 (rfl : Try.f24.body = some _) ?_
  intro w0 X0 Fin pv0 pb gt
  unfold pimpl_TermOk at h
  apply Wc.seq
  refine Wc.r0 ⟨[tP 1 1], [bC 1 (GTerm.q u8h)], []⟩ ?_
  apply Wc.seq
  obtain ⟨ub6, h238, h⟩ := obind h
  refine Wc.r2 [{}, { r := some (.v (aI ub6) []) }] ⟨[tB 2 (decide (ub6 ≤ 400))], [], []⟩ (.cons (cimpl_sized h238) .nil) ?_
  obtain rfl := Option.some.inj h; exact Wc.ret dn

def pimpl_walked_L1 (k : Nat) (zf : List GTerm) : Nat → Int → GTerm → Option (Out GTerm GTerm)
  | 0, _, _ => none
  | m + 1, u1v, zn =>
    if (decide (u1v < 5000)) = true then
      if (zn.gKind == 1) = true then
        (pimpl_within k zn.gNum 0 (wr.i64 ((zf.length : Int) - 1))).bind fun ub7 =>
        if ub7 = true then
          (at' zf zn.gNum).bind fun u63 =>
          if (u63.gKind != 0) = true then
            (at' zf zn.gNum).bind fun u4p =>
            pimpl_walked_L1 k zf m (wr.i64 (u1v + 1)) u4p
          else
            some (.done zn)
        else
          some (.done zn)
      else
        some (.done zn)
    else
      some (.done zn)
def pimpl_walked (k : Nat) (zf : List GTerm) (u64 : GTerm) : Option GTerm :=
  (pimpl_walked_L1 k zf k 0 u64).bind fun out1 => match out1 with
  | .ret r => some r
  | .done u65 =>
    some u65
theorem cimpl_walked {k : Nat} {zf : List GTerm} {u64 : GTerm} {r : GTerm} (h : pimpl_walked k zf u64 = some r) : FnO Try.prog 33 [.v (.sl (List.map GTerm.c zf)) [], .v (.agg (GTerm.q u64)) []] (.v (.agg (GTerm.q r)) []) [] := by
  refine FnO.o2 Try.func33 (rfl : Try.f33.body = some _) ?_
  intro w0 X0 Fin pv0 pb gt
  unfold pimpl_walked at h
  apply Wc.seq
  refine Wc.r0 ⟨[tV 0 (.sl (List.map GTerm.c zf)), tP 3 3, tP 4 4], [bC 3 (GTerm.q u64), (4, .cells GTerm.z [(3, .app 26)])], []⟩ ?_
  apply Wc.seq
  apply Wc.seq
  refine Wc.r0 ⟨[tV 0 (.sl (List.map GTerm.c zf)), tP 3 3, tP 4 4, tI 5 0], [bC 3 (GTerm.q u64), (4, .cells GTerm.z [(3, .app 26)])], []⟩ ?_
  obtain ⟨out1, h239, h⟩ := obind h
  refine Wc.lastJ (fun st => ∃ (u65 : GTerm), out1 = .done u65 ∧ st = ⟨[tP 3 3, tP 4 4], [bC 3 (GTerm.q u65), (4, .cells GTerm.z [(3, .app 26)])], []⟩) ?_ ?_
  · refine Wc.block ?_
    refine Wc.loop (fun m st => ∃ (u1v : Int) (zn : GTerm), st = ⟨[tV 0 (.sl (List.map GTerm.c zf)), tP 3 3, tP 4 4, tI 5 u1v], [bC 3 (GTerm.q zn), (4, .cells GTerm.z [(3, .app 26)])], []⟩ ∧ pimpl_walked_L1 k zf m u1v zn = some out1) ?_ k ⟨_, _, rfl, h239⟩
    rintro m st ⟨u1v, zn, rfl, h239⟩
    cases m with
    | zero => exact (onone h239).elim
    | succ m =>
      apply Wc.seq
      apply Wc.seq
      rcases oif h239 with ⟨h240, h239⟩ | ⟨h240, h239⟩
      · rcases oif h239 with ⟨h241, h239⟩ | ⟨h241, h239⟩
        · obtain ⟨ub7, h242, h239⟩ := obind h239
          rcases oif h239 with ⟨h243, h239⟩ | ⟨h243, h239⟩
          · obtain ⟨u63, h244, h239⟩ := obind h239
            refine Wc.r2 [{}, {}, { re := some (.bool true) }, {}, {}, {}, {}, { re := some (.bool true) }, {}, {}, {}, { v := some (aI (zf.length : Int)) }, {}, { r := some (.v (.bool ub7) []) }, {}, { re := some (.bool true) }, {}, {}, {}, { v := some (.vptr (GTerm.q u63)) }] ⟨[tV 0 (.sl (List.map GTerm.c zf)), tP 3 3, tP 4 4, tI 5 u1v, tB 29 (u63.gKind != 0)], [bC 3 (GTerm.q zn), (4, .cells GTerm.z [(3, .app 26)])], []⟩ (.cons (congrArg AV.bool h240) (.cons (congrArg AV.bool h241) (.cons (len_obl GTerm.c zf) (.cons (cimpl_within h242) (.cons (congrArg AV.bool h243) (.cons (at_obl (c := GTerm.c) (GTerm.c_eq u63) GTerm.c_len h244) (.cons (len_ok 1 (GTerm.q u63)) .nil))))))) ?_
            rcases oif h239 with ⟨h245, h239⟩ | ⟨h245, h239⟩
            · refine Wc.cT h245 ?_
              refine Wc.fx [] ⟨[tV 0 (.sl (List.map GTerm.c zf)), tP 3 3, tP 4 4, tI 5 u1v], [bC 3 (GTerm.q zn), (4, .cells GTerm.z [(3, .app 26)])], []⟩ ?_
              refine Wc.skip ?_
              apply Wc.seq
              refine Wc.block ?_
              obtain ⟨u4p, h246, h239⟩ := obind h239
              refine Wc.r2 [{}, {}, {}, { v := some (.vptr (GTerm.q u4p)) }] ⟨[tV 0 (.sl (List.map GTerm.c zf)), tP 3 3, tP 4 4, tI 5 u1v], [bC 3 (GTerm.q u4p), (4, .cells GTerm.z [(3, .app 26)])], []⟩ (.cons (at_obl (c := GTerm.c) (GTerm.c_eq u4p) GTerm.c_len h246) (.cons (len_ok 4 (GTerm.q u4p)) .nil)) ?_
              refine Wc.r0 ⟨[tV 0 (.sl (List.map GTerm.c zf)), tP 3 3, tP 4 4, tI 5 (wr.i64 (u1v + 1))], [bC 3 (GTerm.q u4p), (4, .cells GTerm.z [(3, .app 26)])], []⟩ ?_
              exact ⟨_, Nat.lt_succ_self _, _, _, rfl, h239⟩
            · refine Wc.cF h245 ?_
              refine Wc.fx [] ⟨[tP 3 3, tP 4 4], [bC 3 (GTerm.q zn), (4, .cells GTerm.z [(3, .app 26)])], []⟩ ?_
              refine Wc.exit ?_
              obtain rfl := Option.some.inj h239
              exact ⟨_, rfl, rfl⟩
          · refine Wc.r2 [{}, {}, { re := some (.bool true) }, {}, {}, {}, {}, { re := some (.bool true) }, {}, {}, {}, { v := some (aI (zf.length : Int)) }, {}, { r := some (.v (.bool ub7) []) }, {}, { re := some (.bool false) }] ⟨[tV 0 (.sl (List.map GTerm.c zf)), tP 3 3, tP 4 4, tI 5 u1v, tB 29 false], [bC 3 (GTerm.q zn), (4, .cells GTerm.z [(3, .app 26)])], []⟩ (.cons (congrArg AV.bool h240) (.cons (congrArg AV.bool h241) (.cons (len_obl GTerm.c zf) (.cons (cimpl_within h242) (.cons (congrArg AV.bool h243) .nil))))) ?_
            refine Wc.cF rfl ?_
            refine Wc.fx [] ⟨[tP 3 3, tP 4 4], [bC 3 (GTerm.q zn), (4, .cells GTerm.z [(3, .app 26)])], []⟩ ?_
            refine Wc.exit ?_
            obtain rfl := Option.some.inj h239
            exact ⟨_, rfl, rfl⟩
        · refine Wc.r2 [{}, {}, { re := some (.bool true) }, {}, {}, {}, {}, { re := some (.bool false) }] ⟨[tV 0 (.sl (List.map GTerm.c zf)), tP 3 3, tP 4 4, tI 5 u1v, tB 29 false], [bC 3 (GTerm.q zn), (4, .cells GTerm.z [(3, .app 26)])], []⟩ (.cons (congrArg AV.bool h240) (.cons (congrArg AV.bool h241) .nil)) ?_
          refine Wc.cF rfl ?_
          refine Wc.fx [] ⟨[tP 3 3, tP 4 4], [bC 3 (GTerm.q zn), (4, .cells GTerm.z [(3, .app 26)])], []⟩ ?_
          refine Wc.exit ?_
          obtain rfl := Option.some.inj h239
          exact ⟨_, rfl, rfl⟩
      · refine Wc.r2 [{}, {}, { re := some (.bool false) }] ⟨[tV 0 (.sl (List.map GTerm.c zf)), tP 3 3, tP 4 4, tI 5 u1v, tB 29 false], [bC 3 (GTerm.q zn), (4, .cells GTerm.z [(3, .app 26)])], []⟩ (.cons (congrArg AV.bool h240) .nil) ?_
        refine Wc.cF rfl ?_
        refine Wc.fx [] ⟨[tP 3 3, tP 4 4], [bC 3 (GTerm.q zn), (4, .cells GTerm.z [(3, .app 26)])], []⟩ ?_
        refine Wc.exit ?_
        obtain rfl := Option.some.inj h239
        exact ⟨_, rfl, rfl⟩
  · rintro st ⟨u65, rfl, rfl⟩
    apply Wc.seq
    refine Wc.r0 ⟨[tP 4 4], [bC 4 (GTerm.q u65)], []⟩ ?_
    obtain rfl := Option.some.inj h; exact Wc.ret dn

def pimpl_fill_L1 (k : Nat) (rimpl_fill : (List GTerm) → GTerm → Int → Int → Option (Int × GTerm × Bool)) (um : GTerm) (ve : List GTerm) (v3 : Int) : Nat → Int → GTerm → Int → Option (Out (Int × GTerm × Bool) (GTerm × Int))
  | 0, _, _, _ => none
  | m + 1, u0j, vy, u31 =>
    if (decide (u0j < (um.gKids.length : Int))) = true then
      (at' um.gKids u0j).bind fun u66 =>
      (rimpl_fill ve u66 (wr.i64 (v3 + 1)) u31).bind fun vs =>
      if (!vs.2.2) = true then
        some (.ret (vs.1, GTerm.mk 0 (bs []) 0 [], false))
      else
        if vy.gKids.length + [vs.2.1].length ≤ 1073741824 then
          pimpl_fill_L1 k rimpl_fill um ve v3 m (wr.i64 (u0j + 1)) (GTerm.mk vy.gKind vy.gName vy.gNum (vy.gKids ++ [vs.2.1])) vs.1
        else none
    else
      some (.done (vy, u31))
mutual
def pimpl_fill : Nat → (List GTerm) → GTerm → Int → Int → Option (Int × GTerm × Bool)
  | 0, _, _, _, _ => none
  | k + 1, ve, u32, v3, zh =>
    (pimpl_walked k ve u32).bind fun um =>
    if (decide ((wr.i64 (zh - 1)) < 0)) = true then
      some (wr.i64 (zh - 1), GTerm.mk 0 (bs []) 0 [], false)
    else
      if (decide (v3 > 40)) = true then
        some (wr.i64 (zh - 1), GTerm.mk 0 (bs []) 0 [], false)
      else
        (pimpl_fill_L1 k (pimpl_fill k) um ve v3 k 0 (GTerm.mk um.gKind um.gName um.gNum []) (wr.i64 (zh - 1))).bind fun out1 => match out1 with
        | .ret r => some r
        | .done (u67, u68) =>
          some (u68, u67, true)
end
set_option maxHeartbeats 4000000 in


def pimpl_filled (k : Nat) (u69 : List GTerm) (u6a : GTerm) : Option (GTerm × Bool) :=
  (pimpl_fill k u69 u6a 1 400).bind fun u1w =>
  if (!u1w.2.2) = true then
    some (GTerm.mk 0 (bs []) 0 [], false)
  else
    (pimpl_TermOk k u1w.2.1).bind fun ub8 =>
    if (!ub8) = true then
      some (GTerm.mk 0 (bs []) 0 [], false)
    else
      some (u1w.2.1, true)


def pimpl_has_1 (k : Nat) (rimpl_has : GTerm → Int → Option Bool) (u8i : GTerm) (u6b : Int) : Option Bool :=
  (rimpl_has u8i u6b).bind fun ub9 =>
  some ub9
theorem cimpl_has_1 {k : Nat} {rimpl_has : GTerm → Int → Option Bool} (ih_pimpl_has : ∀ {y0 : GTerm} {y1 : Int} {r : Bool}, rimpl_has y0 y1 = some r → FnO Try.prog 61 [.v (.agg (GTerm.q y0)) [], .v (aI y1) []] (.v (.bool r) []) []) {u8i : GTerm} {u6b : Int} {r : Bool} (h : pimpl_has_1 k rimpl_has u8i u6b = some r) : FnO Try.prog 67 [.v (.agg (GTerm.q u8i)) [], .v (.vptr [aI u6b]) []] (.v (.bool r) []) [] := by
  refine FnO.o2 Try.func67 (rfl : Try.f67.body = some _) ?_
  intro w0 X0 Fin pv0 pb gt
  unfold pimpl_has_1 at h
  apply Wc.seq
  refine Wc.r0 ⟨[tV 1 (.vptr [aI u6b]), tP 2 2], [bC 2 (GTerm.q u8i)], []⟩ ?_
  apply Wc.seq
  obtain ⟨ub9, h279, h⟩ := obind h
  refine Wc.r2 [{}, {}, { r := some (.v (.bool ub9) []) }] ⟨[tB 3 ub9], [], []⟩ (.cons (len_ok 1 [aI u6b]) (.cons (ih_pimpl_has h279) .nil)) ?_
  obtain rfl := Option.some.inj h; exact Wc.ret dn

def pslices_IndexFunc___impl_Term_impl_Term__on1_pimpl_has_1_L1 (k : Nat) (rimpl_has : GTerm → Int → Option Bool) (vt : List GTerm) (vh : Int) : Nat → Int → Option (Out Int Unit)
  | 0, _ => none
  | m + 1, u01 =>
    if (decide (u01 < (vt.length : Int))) = true then
      (at' vt u01).bind fun u2b =>
      (pimpl_has_1 k rimpl_has u2b vh).bind fun u3q =>
      if u3q = true then
        some (.ret u01)
      else
        pslices_IndexFunc___impl_Term_impl_Term__on1_pimpl_has_1_L1 k rimpl_has vt vh m (wr.i64 (u01 + 1))
    else
      some (.done ())
def pslices_IndexFunc___impl_Term_impl_Term__on1_pimpl_has_1 (k : Nat) (rimpl_has : GTerm → Int → Option Bool) (vt : List GTerm) (vh : Int) : Option Int :=
  (pslices_IndexFunc___impl_Term_impl_Term__on1_pimpl_has_1_L1 k rimpl_has vt vh k 0).bind fun out1 => match out1 with
  | .ret r => some r
  | .done () =>
    some (-1)
theorem cslices_IndexFunc___impl_Term_impl_Term__on1_pimpl_has_1 {k : Nat} {rimpl_has : GTerm → Int → Option Bool} (ih_pimpl_has : ∀ {y0 : GTerm} {y1 : Int} {r : Bool}, rimpl_has y0 y1 = some r → FnO Try.prog 61 [.v (.agg (GTerm.q y0)) [], .v (aI y1) []] (.v (.bool r) []) []) {vt : List GTerm} {vh : Int} {r : Int} (h : pslices_IndexFunc___impl_Term_impl_Term__on1_pimpl_has_1 k rimpl_has vt vh = some r) : FnO Try.prog 70 [.v (.sl (List.map GTerm.c vt)) [], .v (.func 67 [.vptr [aI vh]]) []] (.v (aI r) []) [] := by
  refine FnO.o2 Try.func70 (rfl : Try.f70.body = some _) ?_
  intro w0 X0 Fin pv0 pb gt
  unfold pslices_IndexFunc___impl_Term_impl_Term__on1_pimpl_has_1 at h
  apply Wc.seq
  refine Wc.r0 ⟨[tV 0 (.sl (List.map GTerm.c vt)), tV 1 (.func 67 [.vptr [aI vh]])], [], []⟩ ?_
  apply Wc.seq
  apply Wc.seq
  refine Wc.r2 [{}, { v := some (aI (vt.length : Int)) }] ⟨[tV 0 (.sl (List.map GTerm.c vt)), tV 1 (.func 67 [.vptr [aI vh]]), tI 7 (vt.length : Int), tI 8 0], [], []⟩ (.cons (len_obl GTerm.c vt) .nil) ?_
  obtain ⟨out1, h277, h⟩ := obind h
  refine Wc.lastJ (fun st => out1 = .done () ∧ st = ⟨[], [], []⟩) ?_ ?_
  · refine Wc.block ?_
    refine Wc.loop (fun m st => ∃ (u01 : Int), st = ⟨[tV 0 (.sl (List.map GTerm.c vt)), tV 1 (.func 67 [.vptr [aI vh]]), tI 7 (vt.length : Int), tI 8 u01], [], []⟩ ∧ pslices_IndexFunc___impl_Term_impl_Term__on1_pimpl_has_1_L1 k rimpl_has vt vh m u01 = some out1) ?_ k ⟨_, rfl, h277⟩
    rintro m st ⟨u01, rfl, h277⟩
    cases m with
    | zero => exact (onone h277).elim
    | succ m =>
      apply Wc.seq
      refine Wc.r0 ⟨[tV 0 (.sl (List.map GTerm.c vt)), tV 1 (.func 67 [.vptr [aI vh]]), tI 7 (vt.length : Int), tI 8 u01, tB 9 (decide (u01 < (vt.length : Int)))], [], []⟩ ?_
      apply Wc.seq
      rcases oif h277 with ⟨h278, h277⟩ | ⟨h278, h277⟩
      · refine Wc.cT h278 ?_
        refine Wc.fx [] ⟨[tV 0 (.sl (List.map GTerm.c vt)), tV 1 (.func 67 [.vptr [aI vh]]), tI 7 (vt.length : Int), tI 8 u01], [], []⟩ ?_
        refine Wc.skip ?_
        apply Wc.seq
        refine Wc.block ?_
        apply Wc.seq
        refine Wc.r0 ⟨[tV 0 (.sl (List.map GTerm.c vt)), tV 1 (.func 67 [.vptr [aI vh]]), tI 5 u01, tI 7 (vt.length : Int), tI 8 u01], [], []⟩ ?_
        apply Wc.seq
        obtain ⟨u2b, h279, h277⟩ := obind h277
        obtain ⟨u3q, h280, h277⟩ := obind h277
        refine Wc.r2 [{}, {}, {}, { v := some (.vptr (GTerm.q u2b)) }, {}, { r := some (.v (.bool u3q) []) }] ⟨[tV 0 (.sl (List.map GTerm.c vt)), tV 1 (.func 67 [.vptr [aI vh]]), tI 5 u01, tI 7 (vt.length : Int), tI 8 u01, tB 16 u3q], [], []⟩ (.cons (at_obl (c := GTerm.c) (GTerm.c_eq u2b) GTerm.c_len h279) (.cons (len_ok 4 (GTerm.q u2b)) (.cons (cimpl_has_1 (fun h => ih_pimpl_has h) h280) .nil))) ?_
        rcases oif h277 with ⟨h281, h277⟩ | ⟨h281, h277⟩
        · refine Wc.cT h281 ?_
          apply Wc.seq
          refine Wc.r0 ⟨[tI 4 u01], [], []⟩ ?_
          refine Wc.ret ?_
          obtain rfl := Option.some.inj h277
          obtain rfl := Option.some.inj h
          exact ⟨.inl rfl, by kernel_rfl, by kernel_rfl⟩
        · refine Wc.cF h281 ?_
          refine Wc.fx [] ⟨[tV 0 (.sl (List.map GTerm.c vt)), tV 1 (.func 67 [.vptr [aI vh]]), tI 7 (vt.length : Int), tI 8 u01], [], []⟩ ?_
          refine Wc.skip ?_
          refine Wc.r0 ⟨[tV 0 (.sl (List.map GTerm.c vt)), tV 1 (.func 67 [.vptr [aI vh]]), tI 7 (vt.length : Int), tI 8 (wr.i64 (u01 + 1))], [], []⟩ ?_
          exact ⟨_, Nat.lt_succ_self _, _, rfl, h277⟩
      · refine Wc.cF h278 ?_
        refine Wc.fx [] ⟨[], [], []⟩ ?_
        refine Wc.exit ?_
        obtain rfl := Option.some.inj h277
        exact ⟨rfl, rfl⟩
  · rintro st ⟨rfl, rfl⟩
    apply Wc.seq
    refine Wc.r0 ⟨[tI 4 (-1)], [], []⟩ ?_
    obtain rfl := Option.some.inj h; exact Wc.ret dn

def pslices_ContainsFunc___impl_Term_impl_Term__on1_pimpl_has_1 (k : Nat) (rimpl_has : GTerm → Int → Option Bool) (u8j : List GTerm) (u8k : Int) : Option Bool :=
  (pslices_IndexFunc___impl_Term_impl_Term__on1_pimpl_has_1 k rimpl_has u8j u8k).bind fun uba =>
  some (decide (uba ≥ 0))
theorem cslices_ContainsFunc___impl_Term_impl_Term__on1_pimpl_has_1 {k : Nat} {rimpl_has : GTerm → Int → Option Bool} (ih_pimpl_has : ∀ {y0 : GTerm} {y1 : Int} {r : Bool}, rimpl_has y0 y1 = some r → FnO Try.prog 61 [.v (.agg (GTerm.q y0)) [], .v (aI y1) []] (.v (.bool r) []) []) {u8j : List GTerm} {u8k : Int} {r : Bool} (h : pslices_ContainsFunc___impl_Term_impl_Term__on1_pimpl_has_1 k rimpl_has u8j u8k = some r) : FnO Try.prog 66 [.v (.sl (List.map GTerm.c u8j)) [], .v (.func 67 [.vptr [aI u8k]]) []] (.v (.bool r) []) [] := by
  refine FnO.o2 Try.func66 (rfl : Try.f66.body = some _) ?_
  intro w0 X0 Fin pv0 pb gt
  unfold pslices_ContainsFunc___impl_Term_impl_Term__on1_pimpl_has_1 at h
  apply Wc.seq
  refine Wc.r0 ⟨[tV 0 (.sl (List.map GTerm.c u8j)), tV 1 (.func 67 [.vptr [aI u8k]])], [], []⟩ ?_
  apply Wc.seq
  obtain ⟨uba, h277, h⟩ := obind h
  refine Wc.r2 [{}, {}, { r := some (.v (aI uba) []) }] ⟨[tB 4 (decide (uba ≥ 0))], [], []⟩ (.cons (cslices_IndexFunc___impl_Term_impl_Term__on1_pimpl_has_1 (fun h => ih_pimpl_has h) h277) .nil) ?_
  obtain rfl := Option.some.inj h; exact Wc.ret dn

mutual
def pimpl_has : Nat → GTerm → Int → Option Bool
  | 0, _, _ => none
  | k + 1, u07, u0z =>
    if (u07.gKind == 1) = true then
      some (u07.gNum == u0z)
    else
      (pslices_ContainsFunc___impl_Term_impl_Term__on1_pimpl_has_1 k (pimpl_has k) u07.gKids u0z).bind fun ubb =>
      some ubb
end
theorem all_pimpl_has : ∀ k : Nat, (∀ {u07 : GTerm} {u0z : Int} {r : Bool}, pimpl_has k u07 u0z = some r → FnO Try.prog 61 [.v (.agg (GTerm.q u07)) [], .v (aI u0z) []] (.v (.bool r) []) []) := by
  intro k
  induction k with
  | zero =>
    · intro u07 u0z r h
      exact (onone (by rw [pimpl_has] at h; exact h)).elim
  | succ k ih =>
    have ih_pimpl_has := @ih
    · intro u07 u0z r h
      rw [pimpl_has] at h
      refine FnO.o2 Try.func61 (rfl : Try.f61.body = some _) ?_
      intro w0 X0 Fin pv0 pb gt
      apply Wc.seq
      refine Wc.r0 ⟨[tP 2 2, tP 3 3], [bC 2 (GTerm.q u07), bC 3 [aI u0z]], []⟩ ?_
      apply Wc.seq
      apply Wc.seq
      refine Wc.r0 ⟨[tP 2 2, tP 3 3, tB 7 (u07.gKind == 1)], [bC 2 (GTerm.q u07), bC 3 [aI u0z]], []⟩ ?_
      rcases oif h with ⟨h276, h⟩ | ⟨h276, h⟩
      · refine Wc.cT h276 ?_
        apply Wc.seq
        refine Wc.r0 ⟨[tB 4 (u07.gNum == u0z)], [], []⟩ ?_
        obtain rfl := Option.some.inj h; exact Wc.ret dn
      · refine Wc.cF h276 ?_
        refine Wc.fx [] ⟨[tP 2 2, tP 3 3], [bC 2 (GTerm.q u07), bC 3 [aI u0z]], []⟩ ?_
        refine Wc.skip ?_
        apply Wc.seq
        refine Wc.freeze 3 ⟨[tP 2 2, tV 3 (.vptr [aI u0z])], [bC 2 (GTerm.q u07)], []⟩ (by kernel_rfl) ?_
        obtain ⟨ubb, h277, h⟩ := obind h
        refine Wc.r2 [{}, {}, {}, { r := some (.v (.bool ubb) []) }] ⟨[tB 4 ubb], [], []⟩ (.cons (cslices_ContainsFunc___impl_Term_impl_Term__on1_pimpl_has_1 (fun h => ih_pimpl_has h) h277) .nil) ?_
        obtain rfl := Option.some.inj h; exact Wc.ret dn
theorem cimpl_has {k : Nat} {u07 : GTerm} {u0z : Int} {r : Bool} (h : pimpl_has k u07 u0z = some r) : FnO Try.prog 61 [.v (.agg (GTerm.q u07)) [], .v (aI u0z) []] (.v (.bool r) []) [] := (all_pimpl_has k) h

def pimpl_fill_d_L1 (k : Nat) (rimpl_fill_d : (List GTerm) → GTerm → Int → Int → Option (Int × GTerm × Bool)) (uf : GTerm) (v5 : List GTerm) (v1 : Int) : Nat → Int → GTerm → Int → Option (Out (Int × GTerm × Bool) (GTerm × Int))
  | 0, _, _, _ => none
  | m + 1, u0k, vf, u33 =>
    if (decide (u0k < (uf.gKids.length : Int))) = true then
      (at' uf.gKids u0k).bind fun u6d =>
      (rimpl_fill_d v5 u6d (wr.i64 (v1 + 1)) u33).bind fun v6 =>
      if (!v6.2.2) = true then
        some (.ret (v6.1, GTerm.mk 0 (bs []) 0 [], false))
      else
        if vf.gKids.length + [v6.2.1].length ≤ 1073741824 then
          pimpl_fill_d_L1 k rimpl_fill_d uf v5 v1 m (wr.i64 (u0k + 1)) (GTerm.mk vf.gKind vf.gName vf.gNum (vf.gKids ++ [v6.2.1])) v6.1
        else none
    else
      some (.done (vf, u33))
mutual
def pimpl_fill_d : Nat → (List GTerm) → GTerm → Int → Int → Option (Int × GTerm × Bool)
  | 0, _, _, _, _ => none
  | k + 1, v5, u34, v1, z4 =>
    (pimpl_walked k v5 u34).bind fun uf =>
    if (decide ((wr.i64 (z4 - 1)) < 0)) = true then
      some (wr.i64 (z4 - 1), GTerm.mk 0 (bs []) 0 [], false)
    else
      if (decide (v1 > 40)) = true then
        some (wr.i64 (z4 - 1), GTerm.mk 0 (bs []) 0 [], false)
      else
        (pimpl_fill_d_L1 k (pimpl_fill_d k) uf v5 v1 k 0 (GTerm.mk uf.gKind uf.gName uf.gNum []) (wr.i64 (z4 - 1))).bind fun out1 => match out1 with
        | .ret r => some r
        | .done (u4a, u6e) =>
          some (u6e, u4a, true)
end
set_option maxHeartbeats 4000000 in
theorem all_pimpl_fill_d : ∀ k : Nat, (∀ {v5 : List GTerm} {u34 : GTerm} {v1 : Int} {z4 : Int} {r : Int × GTerm × Bool}, pimpl_fill_d k v5 u34 v1 z4 = some r → FnO Try.prog 43 [.v (.sl (List.map GTerm.c v5)) [], .v (.agg (GTerm.q u34)) [], .v (aI v1) [], .p [aI z4] []] (.v (.tup [.agg (GTerm.qx r.2.1), .bool r.2.2]) (GTerm.h3_26t r.2.1)) [(3, .p [aI r.1] [])]) := by
  intro k
  induction k with
  | zero =>
    · intro v5 u34 v1 z4 r h
      exact (onone (by rw [pimpl_fill_d] at h; exact h)).elim
  | succ k ih =>
    have ih_pimpl_fill_d := @ih
    · intro v5 u34 v1 z4 r h
      rw [pimpl_fill_d] at h
      refine FnO.o2 Try.func43 (rfl : Try.f43.body = some _) ?_
      intro w0 X0 Fin pv0 pb gt
      apply Wc.seq
      refine Wc.r0 ⟨[tV 0 (.sl (List.map GTerm.c v5)), tI 2 v1, tP 3 1000003, tP 5 5, tP 8 8], [bC 5 (GTerm.q u34), (8, .cells GTerm.z [(3, .app 26)]), bC 1000003 [aI z4]], []⟩ ?_
      apply Wc.seq
      obtain ⟨uf, h284, h⟩ := obind h
      refine Wc.r2 [{}, {}, { r := some (.v (.agg (GTerm.q uf)) []) }] ⟨[tV 0 (.sl (List.map GTerm.c v5)), tI 2 v1, tP 3 1000003, tP 5 5, tP 8 8], [bC 5 (GTerm.q uf), (8, .cells GTerm.z [(3, .app 26)]), bC 1000003 [aI z4]], []⟩ (.cons (cimpl_walked h284) .nil) ?_
      apply Wc.seq
      refine Wc.r0 ⟨[tV 0 (.sl (List.map GTerm.c v5)), tI 2 v1, tP 3 1000003, tP 5 5, tP 8 8], [bC 5 (GTerm.q uf), (8, .cells GTerm.z [(3, .app 26)]), bC 1000003 [aI (wr.i64 (z4 - 1))]], []⟩ ?_
      apply Wc.seq
      apply Wc.seq
      rcases oif h with ⟨h285, h⟩ | ⟨h285, h⟩
      · refine Wc.r2 [{}, {}, {}, {}, { re := some (.bool true) }] ⟨[tV 0 (.sl (List.map GTerm.c v5)), tI 2 v1, tP 3 1000003, tP 5 5, tP 8 8, tB 30 true], [bC 5 (GTerm.q uf), (8, .cells GTerm.z [(3, .app 26)]), bC 1000003 [aI (wr.i64 (z4 - 1))]], []⟩ (.cons (congrArg AV.bool h285) .nil) ?_
        refine Wc.cT rfl ?_
        apply Wc.seq
        refine Wc.r1 [{}, { tk := [31] }] ⟨[tP 8 8, tB 9 false], [(8, .cells GTerm.z [(3, .app 26)]), bC 1000003 [aI (wr.i64 (z4 - 1))]], []⟩ ?_
        refine Wc.fx [.ow (.b 8 3) true] ⟨[tP 8 8, tB 9 false], [(8, .cells [aI 0, .str (bs []), aI 0, .slx] [(3, .ex 26 true (List.map GTerm.c []))]), bC 1000003 [aI (wr.i64 (z4 - 1))]], []⟩ ?_
        obtain rfl := Option.some.inj h; exact Wc.ret dn
      · refine Wc.r2 [{}, {}, {}, {}, { re := some (.bool false) }] ⟨[tV 0 (.sl (List.map GTerm.c v5)), tI 2 v1, tP 3 1000003, tP 5 5, tP 8 8, tB 30 (decide (v1 > 40))], [bC 5 (GTerm.q uf), (8, .cells GTerm.z [(3, .app 26)]), bC 1000003 [aI (wr.i64 (z4 - 1))]], []⟩ (.cons (congrArg AV.bool h285) .nil) ?_
        rcases oif h with ⟨h286, h⟩ | ⟨h286, h⟩
        · refine Wc.cT h286 ?_
          apply Wc.seq
          refine Wc.r1 [{}, { tk := [31] }] ⟨[tP 8 8, tB 9 false], [(8, .cells GTerm.z [(3, .app 26)]), bC 1000003 [aI (wr.i64 (z4 - 1))]], []⟩ ?_
          refine Wc.fx [.ow (.b 8 3) true] ⟨[tP 8 8, tB 9 false], [(8, .cells [aI 0, .str (bs []), aI 0, .slx] [(3, .ex 26 true (List.map GTerm.c []))]), bC 1000003 [aI (wr.i64 (z4 - 1))]], []⟩ ?_
          obtain rfl := Option.some.inj h; exact Wc.ret dn
        · refine Wc.cF h286 ?_
          refine Wc.fx [] ⟨[tV 0 (.sl (List.map GTerm.c v5)), tI 2 v1, tP 3 1000003, tP 5 5, tP 8 8], [bC 5 (GTerm.q uf), (8, .cells GTerm.z [(3, .app 26)]), bC 1000003 [aI (wr.i64 (z4 - 1))]], []⟩ ?_
          refine Wc.skip ?_
          apply Wc.seq
          refine Wc.r0 ⟨[tV 0 (.sl (List.map GTerm.c v5)), tI 2 v1, tP 3 1000003, tP 5 5, tP 8 8, tP 10 10], [bC 5 (GTerm.q uf), (8, .cells GTerm.z [(3, .app 26)]), bC 10 (GTerm.q uf), bC 1000003 [aI (wr.i64 (z4 - 1))]], []⟩ ?_
          apply Wc.seq
          refine Wc.r0 ⟨[tV 0 (.sl (List.map GTerm.c v5)), tI 2 v1, tP 3 1000003, tP 5 5, tP 8 8, tP 10 10], [bC 5 (GTerm.q uf), (8, .cells GTerm.z [(3, .app 26)]), (10, .cells [aI uf.gKind, .str uf.gName, aI uf.gNum, .sl (List.map GTerm.c [])] [(3, .app 26)]), bC 1000003 [aI (wr.i64 (z4 - 1))]], []⟩ ?_
          apply Wc.seq
          apply Wc.seq
          refine Wc.r2 [{}, {}, { v := some (aI (uf.gKids.length : Int)) }] ⟨[tV 0 (.sl (List.map GTerm.c v5)), tI 2 v1, tP 3 1000003, tP 8 8, tP 10 10, tV 35 (.sl (List.map GTerm.c uf.gKids)), tI 36 (uf.gKids.length : Int), tI 37 0], [(8, .cells GTerm.z [(3, .app 26)]), (10, .cells [aI uf.gKind, .str uf.gName, aI uf.gNum, .sl (List.map GTerm.c [])] [(3, .app 26)]), bC 1000003 [aI (wr.i64 (z4 - 1))]], []⟩ (.cons (len_obl GTerm.c uf.gKids) .nil) ?_
          obtain ⟨out1, h287, h⟩ := obind h
          refine Wc.lastJ (fun st => ∃ (u4a : GTerm) (u6e : Int), out1 = .done (u4a, u6e) ∧ st = ⟨[tP 8 8, tP 10 10], [(8, .cells [aI 0, .str (bs []), aI 0, .slx] [(3, .ex 26 true (List.map GTerm.c []))]), (10, .cells (GTerm.qx u4a) (GTerm.h3_26t u4a)), bC 1000003 [aI u6e]], []⟩) ?_ ?_
          · refine Wc.block ?_
            refine Wc.fx [.ow (.b 8 3) true, .ow (.b 10 3) true] ⟨[tV 0 (.sl (List.map GTerm.c v5)), tI 2 v1, tP 3 1000003, tP 8 8, tP 10 10, tV 35 (.sl (List.map GTerm.c uf.gKids)), tI 36 (uf.gKids.length : Int), tI 37 0], [(8, .cells [aI 0, .str (bs []), aI 0, .slx] [(3, .ex 26 true (List.map GTerm.c []))]), (10, .cells (GTerm.qx uf) [(3, .ex 26 true (List.map GTerm.c []))]), bC 1000003 [aI (wr.i64 (z4 - 1))]], []⟩ ?_
            refine Wc.loop (fun m st => ∃ (u0k : Int) (vf : GTerm) (u33 : Int), st = ⟨[tV 0 (.sl (List.map GTerm.c v5)), tI 2 v1, tP 3 1000003, tP 8 8, tP 10 10, tV 35 (.sl (List.map GTerm.c uf.gKids)), tI 36 (uf.gKids.length : Int), tI 37 u0k], [(8, .cells [aI 0, .str (bs []), aI 0, .slx] [(3, .ex 26 true (List.map GTerm.c []))]), (10, .cells (GTerm.qx vf) (GTerm.h3_26t vf)), bC 1000003 [aI u33]], []⟩ ∧ pimpl_fill_d_L1 k (pimpl_fill_d k) uf v5 v1 m u0k vf u33 = some out1) ?_ k ⟨_, _, _, rfl, h287⟩
            rintro m st ⟨u0k, vf, u33, rfl, h287⟩
            cases m with
            | zero => exact (onone h287).elim
            | succ m =>
              apply Wc.seq
              refine Wc.r0 ⟨[tV 0 (.sl (List.map GTerm.c v5)), tI 2 v1, tP 3 1000003, tP 8 8, tP 10 10, tV 35 (.sl (List.map GTerm.c uf.gKids)), tI 36 (uf.gKids.length : Int), tI 37 u0k, tB 38 (decide (u0k < (uf.gKids.length : Int)))], [(8, .cells [aI 0, .str (bs []), aI 0, .slx] [(3, .ex 26 true (List.map GTerm.c []))]), (10, .cells (GTerm.qx vf) (GTerm.h3_26t vf)), bC 1000003 [aI u33]], []⟩ ?_
              apply Wc.seq
              rcases oif h287 with ⟨h288, h287⟩ | ⟨h288, h287⟩
              · refine Wc.cT h288 ?_
                refine Wc.fx [] ⟨[tV 0 (.sl (List.map GTerm.c v5)), tI 2 v1, tP 3 1000003, tP 8 8, tP 10 10, tV 35 (.sl (List.map GTerm.c uf.gKids)), tI 36 (uf.gKids.length : Int), tI 37 u0k], [(8, .cells [aI 0, .str (bs []), aI 0, .slx] [(3, .ex 26 true (List.map GTerm.c []))]), (10, .cells (GTerm.qx vf) (GTerm.h3_26t vf)), bC 1000003 [aI u33]], []⟩ ?_
                refine Wc.skip ?_
                apply Wc.seq
                refine Wc.block ?_
                apply Wc.seq
                obtain ⟨u6d, h289, h287⟩ := obind h287
                refine Wc.r2 [{ v := some (.vptr (GTerm.q u6d)) }] ⟨[tV 0 (.sl (List.map GTerm.c v5)), tI 2 v1, tP 3 1000003, tP 8 8, tP 10 10, tP 12 12, tV 35 (.sl (List.map GTerm.c uf.gKids)), tI 36 (uf.gKids.length : Int), tI 37 u0k], [(8, .cells [aI 0, .str (bs []), aI 0, .slx] [(3, .ex 26 true (List.map GTerm.c []))]), (10, .cells (GTerm.qx vf) (GTerm.h3_26t vf)), bC 12 (GTerm.q u6d), bC 1000003 [aI u33]], []⟩ (.cons (at_obl (c := GTerm.c) (GTerm.c_eq u6d) GTerm.c_len h289) (.cons (len_ok 4 (GTerm.q u6d)) .nil)) ?_
                apply Wc.seq
                obtain ⟨v6, h290, h287⟩ := obind h287
                refine Wc.r2 [{}, {}, {}, {}, {}, { r := some (.v (.tup [.agg (GTerm.qx v6.2.1), .bool v6.2.2]) (GTerm.h3_26t v6.2.1)), outs := [(3, .p [aI v6.1] [])] }, { tk := [47] }, { tk := [41] }, {}, {}, { tk := [48] }] ⟨[tV 0 (.sl (List.map GTerm.c v5)), tI 2 v1, tP 3 1000003, tP 8 8, tP 10 10, tP 13 13, tB 14 v6.2.2, tV 35 (.sl (List.map GTerm.c uf.gKids)), tI 36 (uf.gKids.length : Int), tI 37 u0k], [(8, .cells [aI 0, .str (bs []), aI 0, .slx] [(3, .ex 26 true (List.map GTerm.c []))]), (10, .cells (GTerm.qx vf) (GTerm.h3_26t vf)), (13, .cells (GTerm.qx v6.2.1) (GTerm.h3_26t v6.2.1)), bC 1000003 [aI v6.1]], []⟩ (.cons (ih_pimpl_fill_d h290) .nil) ?_
                apply Wc.seq
                apply Wc.seq
                refine Wc.r0 ⟨[tV 0 (.sl (List.map GTerm.c v5)), tI 2 v1, tP 3 1000003, tP 8 8, tP 10 10, tP 13 13, tV 35 (.sl (List.map GTerm.c uf.gKids)), tI 36 (uf.gKids.length : Int), tI 37 u0k, tB 51 (!v6.2.2)], [(8, .cells [aI 0, .str (bs []), aI 0, .slx] [(3, .ex 26 true (List.map GTerm.c []))]), (10, .cells (GTerm.qx vf) (GTerm.h3_26t vf)), (13, .cells (GTerm.qx v6.2.1) (GTerm.h3_26t v6.2.1)), bC 1000003 [aI v6.1]], []⟩ ?_
                rcases oif h287 with ⟨h291, h287⟩ | ⟨h291, h287⟩
                · refine Wc.cT h291 ?_
                  apply Wc.seq
                  refine Wc.r1 [{}, { tk := [52] }] ⟨[tP 8 8, tB 9 false], [(8, .cells GTerm.z [(3, .app 26)]), bC 1000003 [aI v6.1]], []⟩ ?_
                  refine Wc.fx [.ow (.b 8 3) true] ⟨[tP 8 8, tB 9 false], [(8, .cells [aI 0, .str (bs []), aI 0, .slx] [(3, .ex 26 true (List.map GTerm.c []))]), bC 1000003 [aI v6.1]], []⟩ ?_
                  refine Wc.ret ?_
                  obtain rfl := Option.some.inj h287
                  obtain rfl := Option.some.inj h
                  exact ⟨.inl rfl, by kernel_rfl, by kernel_rfl⟩
                · refine Wc.cF h291 ?_
                  refine Wc.fx [] ⟨[tV 0 (.sl (List.map GTerm.c v5)), tI 2 v1, tP 3 1000003, tP 8 8, tP 10 10, tP 13 13, tV 35 (.sl (List.map GTerm.c uf.gKids)), tI 36 (uf.gKids.length : Int), tI 37 u0k], [(8, .cells [aI 0, .str (bs []), aI 0, .slx] [(3, .ex 26 true (List.map GTerm.c []))]), (10, .cells (GTerm.qx vf) (GTerm.h3_26t vf)), (13, .cells (GTerm.qx v6.2.1) (GTerm.h3_26t v6.2.1)), bC 1000003 [aI v6.1]], []⟩ ?_
                  refine Wc.skip ?_
                  obtain ⟨h292, h287⟩ := oguard h287
                  refine Wc.r2 [{}, { md := 1 }, { md := 1 }, { c := some (List.map GTerm.c [v6.2.1]), tk := [55], md := 2 }, { c := some (List.map GTerm.c (vf.gKids ++ [v6.2.1])), tk := [54, 56], md := 2 }, {}, { tk := [57] }] ⟨[tV 0 (.sl (List.map GTerm.c v5)), tI 2 v1, tP 3 1000003, tP 8 8, tP 10 10, tV 35 (.sl (List.map GTerm.c uf.gKids)), tI 36 (uf.gKids.length : Int), tI 37 u0k], [(8, .cells [aI 0, .str (bs []), aI 0, .slx] [(3, .ex 26 true (List.map GTerm.c []))]), (10, .cells (GTerm.qx vf) [(3, .ex 26 true (List.map GTerm.c (vf.gKids ++ [v6.2.1])))]), bC 1000003 [aI v6.1]], []⟩ (.cons (cl_cons (c := GTerm.c) (x := v6.2.1) (GTerm.c_eq v6.2.1) (cl_nil GTerm.c)) (.cons (app_re2 GTerm.c vf.gKids [v6.2.1]) (.cons (app_obl2 (c := GTerm.c) (xs := vf.gKids) (ys := [v6.2.1]) GTerm.c_len h292) .nil))) ?_
                  refine Wc.r0 ⟨[tV 0 (.sl (List.map GTerm.c v5)), tI 2 v1, tP 3 1000003, tP 8 8, tP 10 10, tV 35 (.sl (List.map GTerm.c uf.gKids)), tI 36 (uf.gKids.length : Int), tI 37 (wr.i64 (u0k + 1))], [(8, .cells [aI 0, .str (bs []), aI 0, .slx] [(3, .ex 26 true (List.map GTerm.c []))]), (10, .cells (GTerm.qx vf) [(3, .ex 26 true (List.map GTerm.c (vf.gKids ++ [v6.2.1])))]), bC 1000003 [aI v6.1]], []⟩ ?_
                  exact ⟨_, Nat.lt_succ_self _, _, _, _, rfl, h287⟩
              · refine Wc.cF h288 ?_
                refine Wc.fx [] ⟨[tP 8 8, tP 10 10], [(8, .cells [aI 0, .str (bs []), aI 0, .slx] [(3, .ex 26 true (List.map GTerm.c []))]), (10, .cells (GTerm.qx vf) (GTerm.h3_26t vf)), bC 1000003 [aI u33]], []⟩ ?_
                refine Wc.exit ?_
                obtain rfl := Option.some.inj h287
                exact ⟨_, _, rfl, rfl⟩
          · rintro st ⟨u4a, u6e, rfl, rfl⟩
            apply Wc.seq
            refine Wc.r1 [{ md := 1 }, { tk := [60] }] ⟨[tP 8 8, tB 9 true], [(8, .cells (GTerm.qx u4a) (GTerm.h3_26t u4a)), bC 1000003 [aI u6e]], []⟩ ?_
            obtain rfl := Option.some.inj h; exact Wc.ret dn
theorem cimpl_fill_d {k : Nat} {v5 : List GTerm} {u34 : GTerm} {v1 : Int} {z4 : Int} {r : Int × GTerm × Bool} (h : pimpl_fill_d k v5 u34 v1 z4 = some r) : FnO Try.prog 43 [.v (.sl (List.map GTerm.c v5)) [], .v (.agg (GTerm.q u34)) [], .v (aI v1) [], .p [aI z4] []] (.v (.tup [.agg (GTerm.qx r.2.1), .bool r.2.2]) (GTerm.h3_26t r.2.1)) [(3, .p [aI r.1] [])] := (all_pimpl_fill_d k) h

def pimpl_filled_d (k : Nat) (u6f : List GTerm) (zq : GTerm) : Option (GTerm × Bool) :=
  (pimpl_fill_d k u6f zq 1 400).bind fun zy =>
  if (!zy.2.2) = true then
    some (GTerm.mk 0 (bs []) 0 [], false)
  else
    (pimpl_TermOk k zy.2.1).bind fun ube =>
    if (!ube) = true then
      some (GTerm.mk 0 (bs []) 0 [], false)
    else
      some (zy.2.1, true)
theorem cimpl_filled_d {k : Nat} {u6f : List GTerm} {zq : GTerm} {r : GTerm × Bool} (h : pimpl_filled_d k u6f zq = some r) : FnO Try.prog 26 [.v (.sl (List.map GTerm.c u6f)) [], .v (.agg (GTerm.q zq)) []] (.v (.tup [.agg (GTerm.qx r.1), .bool r.2]) (GTerm.h3_26t r.1)) [] := by
  refine FnO.o2 Try.func26 (rfl : Try.f26.body = some _) ?_
  intro w0 X0 Fin pv0 pb gt
  unfold pimpl_filled_d at h
  apply Wc.seq
  refine Wc.r0 ⟨[tV 0 (.sl (List.map GTerm.c u6f)), tP 3 3, tP 4 4], [bC 3 (GTerm.q zq), (4, .cells GTerm.z [(3, .app 26)])], []⟩ ?_
  apply Wc.seq
  refine Wc.r0 ⟨[tV 0 (.sl (List.map GTerm.c u6f)), tP 3 3, tP 4 4, tP 6 6], [bC 3 (GTerm.q zq), (4, .cells GTerm.z [(3, .app 26)]), bC 6 [aI 400]], []⟩ ?_
  apply Wc.seq
  obtain ⟨zy, h279, h⟩ := obind h
  refine Wc.r2 [{}, {}, { r := some (.v (.tup [.agg (GTerm.qx zy.2.1), .bool zy.2.2]) (GTerm.h3_26t zy.2.1)), outs := [(3, .p [aI zy.1] [])] }, { tk := [12] }, { tk := [9] }, {}, {}, { tk := [13] }] ⟨[tP 4 4, tP 7 7, tB 8 zy.2.2], [(4, .cells GTerm.z [(3, .app 26)]), (7, .cells (GTerm.qx zy.2.1) (GTerm.h3_26t zy.2.1))], []⟩ (.cons (cimpl_fill_d h279) .nil) ?_
  apply Wc.seq
  apply Wc.seq
  rcases oif h with ⟨h280, h⟩ | ⟨h280, h⟩
  · refine Wc.r2 [{}, {}, { re := some (.bool true) }] ⟨[tP 4 4, tP 7 7, tB 21 true], [(4, .cells GTerm.z [(3, .app 26)]), (7, .cells (GTerm.qx zy.2.1) (GTerm.h3_26t zy.2.1))], []⟩ (.cons (congrArg AV.bool h280) .nil) ?_
    refine Wc.cT rfl ?_
    apply Wc.seq
    refine Wc.r1 [{}, { tk := [22] }] ⟨[tP 4 4, tB 5 false], [(4, .cells GTerm.z [(3, .app 26)])], []⟩ ?_
    refine Wc.fx [.ow (.b 4 3) true] ⟨[tP 4 4, tB 5 false], [(4, .cells [aI 0, .str (bs []), aI 0, .slx] [(3, .ex 26 true (List.map GTerm.c []))])], []⟩ ?_
    obtain rfl := Option.some.inj h; exact Wc.ret dn
  · obtain ⟨ube, h281, h⟩ := obind h
    refine Wc.r2 [{}, {}, { re := some (.bool false) }, {}, { r := some (.v (.bool ube) []) }] ⟨[tP 4 4, tP 7 7, tB 21 (!ube)], [(4, .cells GTerm.z [(3, .app 26)]), (7, .cells (GTerm.qx zy.2.1) (GTerm.h3_26t zy.2.1))], []⟩ (.cons (congrArg AV.bool h280) (.cons (cimpl_TermOk h281) .nil)) ?_
    rcases oif h with ⟨h282, h⟩ | ⟨h282, h⟩
    · refine Wc.cT h282 ?_
      apply Wc.seq
      refine Wc.r1 [{}, { tk := [22] }] ⟨[tP 4 4, tB 5 false], [(4, .cells GTerm.z [(3, .app 26)])], []⟩ ?_
      refine Wc.fx [.ow (.b 4 3) true] ⟨[tP 4 4, tB 5 false], [(4, .cells [aI 0, .str (bs []), aI 0, .slx] [(3, .ex 26 true (List.map GTerm.c []))])], []⟩ ?_
      obtain rfl := Option.some.inj h; exact Wc.ret dn
    · refine Wc.cF h282 ?_
      refine Wc.fx [] ⟨[tP 4 4, tP 7 7], [(4, .cells GTerm.z [(3, .app 26)]), (7, .cells (GTerm.qx zy.2.1) (GTerm.h3_26t zy.2.1))], []⟩ ?_
      refine Wc.skip ?_
      apply Wc.seq
      refine Wc.r1 [{ md := 1 }, { tk := [23] }] ⟨[tP 4 4, tB 5 true], [(4, .cells (GTerm.qx zy.2.1) (GTerm.h3_26t zy.2.1))], []⟩ ?_
      obtain rfl := Option.some.inj h; exact Wc.ret dn

def pimpl_unifier_bind (k : Nat) (ug : GUnifier) (v4 : Int) (u0a : GTerm) : Option (GUnifier × Bool) :=
  (pimpl_filled_d k ug.gList u0a).bind fun u3s =>
  if (!u3s.2) = true then
    some (ug, false)
  else
    (pimpl_has k u3s.1 v4).bind fun ubf =>
    if ubf = true then
      some (ug, false)
    else
      (pimpl_within k v4 0 (wr.i64 ((ug.gList.length : Int) - 1))).bind fun u3r =>
      if (!u3r) = true then
        some (ug, false)
      else
        (at' ug.gList v4).bind fun ucd =>
        if ug.gBound.length + [v4].length ≤ 1073741824 then
          some (GUnifier.mk (ug.gList.set ((v4).toNat) u0a) (ug.gBound ++ [v4]) ug.gPairs, true)
        else none
theorem cimpl_unifier_bind {k : Nat} {hv0 : Value} {ug : GUnifier} {v4 : Int} {u0a : GTerm} {r : GUnifier × Bool} (h : pimpl_unifier_bind k ug v4 u0a = some r) : FnO Try.prog 42 [.p [.raw hv0, .slx, aI ug.gPairs] [(0, .ex 26 false (List.map GTerm.c ug.gList)), (1, .ex 3 false (List.map cI.i64 ug.gBound))], .v (aI v4) [], .v (.agg (GTerm.q u0a)) []] (.v (.bool r.2) []) [(0, .p [.raw hv0, .slx, aI r.1.gPairs] [(0, .ex 26 false (List.map GTerm.c r.1.gList)), (1, .ex 3 false (List.map cI.i64 r.1.gBound))])] := by
  refine FnO.o2 Try.func42 (rfl : Try.f42.body = some _) ?_
  intro w0 X0 Fin pv0 pb gt
  unfold pimpl_unifier_bind at h
  apply Wc.seq
  refine Wc.r0 ⟨[tP 0 1000000, tI 1 v4, tP 5 5], [bC 5 (GTerm.q u0a), (1000000, .cells [.raw hv0, .slx, aI ug.gPairs] [(0, .ex 26 false (List.map GTerm.c ug.gList)), (1, .ex 3 false (List.map cI.i64 ug.gBound))])], []⟩ ?_
  apply Wc.seq
  obtain ⟨u3s, h275, h⟩ := obind h
  refine Wc.every hmix [{}, {}, {}, {}, {}, { r := some (.v (.tup [.agg (GTerm.qx u3s.1), .bool u3s.2]) (GTerm.h3_26t u3s.1)) }, { tk := [15] }, { tk := [9] }, {}, {}, { tk := [16] }] [] [0, 1, 5, 7, 8] [5, 7, 1000000] [] ⟨[tP 0 1000000, tI 1 v4, tP 5 5, tP 7 7, tB 8 u3s.2], [bC 5 (GTerm.q u0a), (7, .cells (GTerm.qx u3s.1) (GTerm.h3_26t u3s.1)), (1000000, .cells [.raw hv0, .slx, aI ug.gPairs] [(0, .ex 26 false (List.map GTerm.c ug.gList)), (1, .ex 3 false (List.map cI.i64 ug.gBound))])], []⟩ _ 145 (by kernel_rfl) (.cons .nil (.cons .nil (.cons .nil (.cons .nil (.cons .nil (.cons (.cons (cimpl_filled_d h275) .nil) (.cons .nil (.cons .nil (.cons .nil (.cons .nil (.cons .nil (.cons .nil .nil)))))))))))) ?_
  apply Wc.seq
  apply Wc.seq
  rcases oif h with ⟨h276, h⟩ | ⟨h276, h⟩
  · refine Wc.r2 [{}, {}, { re := some (.bool true) }] ⟨[tP 0 1000000, tI 1 v4, tP 5 5, tB 35 true], [bC 5 (GTerm.q u0a), (1000000, .cells [.raw hv0, .slx, aI ug.gPairs] [(0, .ex 26 false (List.map GTerm.c ug.gList)), (1, .ex 3 false (List.map cI.i64 ug.gBound))])], []⟩ (.cons (congrArg AV.bool h276) .nil) ?_
    refine Wc.cT rfl ?_
    apply Wc.seq
    refine Wc.r0 ⟨[tB 6 false], [(1000000, .cells [.raw hv0, .slx, aI ug.gPairs] [(0, .ex 26 false (List.map GTerm.c ug.gList)), (1, .ex 3 false (List.map cI.i64 ug.gBound))])], []⟩ ?_
    obtain rfl := Option.some.inj h; exact Wc.ret dn
  · obtain ⟨ubf, h277, h⟩ := obind h
    rcases oif h with ⟨h278, h⟩ | ⟨h278, h⟩
    · refine Wc.r2 [{}, {}, { re := some (.bool false) }, {}, {}, { r := some (.v (.bool ubf) []) }, {}, { re := some (.bool true) }] ⟨[tP 0 1000000, tI 1 v4, tP 5 5, tB 35 true], [bC 5 (GTerm.q u0a), (1000000, .cells [.raw hv0, .slx, aI ug.gPairs] [(0, .ex 26 false (List.map GTerm.c ug.gList)), (1, .ex 3 false (List.map cI.i64 ug.gBound))])], []⟩ (.cons (congrArg AV.bool h276) (.cons (cimpl_has h277) (.cons (congrArg AV.bool h278) .nil))) ?_
      refine Wc.cT rfl ?_
      apply Wc.seq
      refine Wc.r0 ⟨[tB 6 false], [(1000000, .cells [.raw hv0, .slx, aI ug.gPairs] [(0, .ex 26 false (List.map GTerm.c ug.gList)), (1, .ex 3 false (List.map cI.i64 ug.gBound))])], []⟩ ?_
      obtain rfl := Option.some.inj h; exact Wc.ret dn
    · obtain ⟨u3r, h279, h⟩ := obind h
      refine Wc.r2 [{}, {}, { re := some (.bool false) }, {}, {}, { r := some (.v (.bool ubf) []) }, {}, { re := some (.bool false) }, {}, {}, {}, {}, {}, { v := some (aI (ug.gList.length : Int)) }, {}, { r := some (.v (.bool u3r) []) }] ⟨[tP 0 1000000, tI 1 v4, tP 5 5, tB 35 (!u3r)], [bC 5 (GTerm.q u0a), (1000000, .cells [.raw hv0, .slx, aI ug.gPairs] [(0, .ex 26 false (List.map GTerm.c ug.gList)), (1, .ex 3 false (List.map cI.i64 ug.gBound))])], []⟩ (.cons (congrArg AV.bool h276) (.cons (cimpl_has h277) (.cons (congrArg AV.bool h278) (.cons (len_obl GTerm.c ug.gList) (.cons (cimpl_within h279) .nil))))) ?_
      rcases oif h with ⟨h280, h⟩ | ⟨h280, h⟩
      · refine Wc.cT h280 ?_
        apply Wc.seq
        refine Wc.r0 ⟨[tB 6 false], [(1000000, .cells [.raw hv0, .slx, aI ug.gPairs] [(0, .ex 26 false (List.map GTerm.c ug.gList)), (1, .ex 3 false (List.map cI.i64 ug.gBound))])], []⟩ ?_
        obtain rfl := Option.some.inj h; exact Wc.ret dn
      · refine Wc.cF h280 ?_
        refine Wc.fx [] ⟨[tP 0 1000000, tI 1 v4, tP 5 5], [bC 5 (GTerm.q u0a), (1000000, .cells [.raw hv0, .slx, aI ug.gPairs] [(0, .ex 26 false (List.map GTerm.c ug.gList)), (1, .ex 3 false (List.map cI.i64 ug.gBound))])], []⟩ ?_
        refine Wc.skip ?_
        apply Wc.seq
        obtain ⟨ucd, h281, h⟩ := obind h
        refine Wc.every hmix [{}, {}, {}, {}, {}, {}, {}, { c := some (List.map GTerm.c (ug.gList.set ((v4).toNat) u0a)) }] [] [0, 1] [1000000] [] ⟨[tP 0 1000000, tI 1 v4], [(1000000, .cells [.raw hv0, .slx, aI ug.gPairs] [(0, .ex 26 false (List.map GTerm.c (ug.gList.set ((v4).toNat) u0a))), (1, .ex 3 false (List.map cI.i64 ug.gBound))])], []⟩ _ 30 (by kernel_rfl) (.cons .nil (.cons .nil (.cons .nil (.cons .nil (.cons .nil (.cons .nil (.cons (.cons (ix_obl (c := GTerm.c) GTerm.c_len h281) .nil) (.cons (.cons (mod_obl (off := 0) (new := (GTerm.q u0a)) (c := GTerm.c) (GTerm.c_eq ucd) (GTerm.c_eq u0a) (at'_spec h281).2 rfl) (.cons (st_obl (sz := 4) (off := 0) (s := 4) (c := GTerm.c) (GTerm.c_eq ucd) (at'_spec h281).2 rfl (Nat.le_of_ble_eq_true rfl)) .nil)) .nil)))))))) ?_
        apply Wc.seq
        obtain ⟨h282, h⟩ := oguard h
        refine Wc.r2 [{}, {}, {}, {}, { md := 1 }, {}, { c := some (List.map cI.i64 [v4]) }, { c := some (List.map cI.i64 (ug.gBound ++ [v4])), tk := [47], md := 1 }, {}, {}, { tk := [50] }] ⟨[], [(1000000, .cells [.raw hv0, .slx, aI ug.gPairs] [(0, .ex 26 false (List.map GTerm.c (ug.gList.set ((v4).toNat) u0a))), (1, .ex 3 false (List.map cI.i64 (ug.gBound ++ [v4])))])], []⟩ (.cons (cl_cons (c := cI.i64) (x := v4) rfl (cl_nil cI.i64)) (.cons (app_re2 cI.i64 ug.gBound [v4]) (.cons (app_leaf (c := cI.i64) (ys := [v4]) cI.i64_leaf) (.cons (app_obl2 (c := cI.i64) (xs := ug.gBound) (ys := [v4]) cI.i64_len h282) .nil)))) ?_
        apply Wc.seq
        refine Wc.r0 ⟨[tB 6 true], [(1000000, .cells [.raw hv0, .slx, aI ug.gPairs] [(0, .ex 26 false (List.map GTerm.c (ug.gList.set ((v4).toNat) u0a))), (1, .ex 3 false (List.map cI.i64 (ug.gBound ++ [v4])))])], []⟩ ?_
        obtain rfl := Option.some.inj h; exact Wc.ret dn

def pimpl_walked_i_L1 (k : Nat) (vi : List GTerm) : Nat → Int → GTerm → Option (Out ((List GTerm) × GTerm) GTerm)
  | 0, _, _ => none
  | m + 1, vh, zo =>
    if (decide (vh < 5000)) = true then
      if (zo.gKind == 1) = true then
        (pimpl_within k zo.gNum 0 (wr.i64 ((vi.length : Int) - 1))).bind fun u3q =>
        if u3q = true then
          (at' vi zo.gNum).bind fun u6g =>
          if (u6g.gKind != 0) = true then
            (at' vi zo.gNum).bind fun u4q =>
            pimpl_walked_i_L1 k vi m (wr.i64 (vh + 1)) u4q
          else
            some (.done zo)
        else
          some (.done zo)
      else
        some (.done zo)
    else
      some (.done zo)
def pimpl_walked_i (k : Nat) (vi : List GTerm) (u6h : GTerm) : Option ((List GTerm) × GTerm) :=
  (pimpl_walked_i_L1 k vi k 0 u6h).bind fun out1 => match out1 with
  | .ret r => some r
  | .done u2b =>
    some (vi, u2b)
theorem cimpl_walked_i {k : Nat} {vi : List GTerm} {u6h : GTerm} {r : (List GTerm) × GTerm} (h : pimpl_walked_i k vi u6h = some r) : FnO Try.prog 33 [.io (.slx) [(0, .ex 26 false (List.map GTerm.c vi))], .v (.agg (GTerm.q u6h)) []] (.v (.agg (GTerm.q r.2)) []) [(0, .v .undef [(0, .ex 26 false (List.map GTerm.c r.1))])] := by
  refine FnO.o2 Try.func33 (rfl : Try.f33.body = some _) ?_
  intro w0 X0 Fin pv0 pb gt
  unfold pimpl_walked_i at h
  apply Wc.seq
  refine Wc.r0 ⟨[(0, (.v (.slx), [(0, .al (.a 0 0) [])])), tP 3 3, tP 4 4], [bC 3 (GTerm.q u6h), (4, .cells GTerm.z [(3, .app 26)])], [(0, [(0, .ex 26 false (List.map GTerm.c vi))])]⟩ ?_
  apply Wc.seq
  apply Wc.seq
  refine Wc.r0 ⟨[(0, (.v (.slx), [(0, .al (.a 0 0) [])])), tP 3 3, tP 4 4, tI 5 0], [bC 3 (GTerm.q u6h), (4, .cells GTerm.z [(3, .app 26)])], [(0, [(0, .ex 26 false (List.map GTerm.c vi))])]⟩ ?_
  obtain ⟨out1, h284, h⟩ := obind h
  refine Wc.lastJ (fun st => ∃ (u2b : GTerm), out1 = .done u2b ∧ st = ⟨[tP 3 3, tP 4 4], [bC 3 (GTerm.q u2b), (4, .cells GTerm.z [(3, .app 26)])], [(0, [(0, .ex 26 false (List.map GTerm.c vi))])]⟩) ?_ ?_
  · refine Wc.block ?_
    refine Wc.loop (fun m st => ∃ (vh : Int) (zo : GTerm), st = ⟨[(0, (.v (.slx), [(0, .al (.a 0 0) [])])), tP 3 3, tP 4 4, tI 5 vh], [bC 3 (GTerm.q zo), (4, .cells GTerm.z [(3, .app 26)])], [(0, [(0, .ex 26 false (List.map GTerm.c vi))])]⟩ ∧ pimpl_walked_i_L1 k vi m vh zo = some out1) ?_ k ⟨_, _, rfl, h284⟩
    rintro m st ⟨vh, zo, rfl, h284⟩
    cases m with
    | zero => exact (onone h284).elim
    | succ m =>
      apply Wc.seq
      apply Wc.seq
      rcases oif h284 with ⟨h285, h284⟩ | ⟨h285, h284⟩
      · rcases oif h284 with ⟨h286, h284⟩ | ⟨h286, h284⟩
        · obtain ⟨u3q, h287, h284⟩ := obind h284
          rcases oif h284 with ⟨h288, h284⟩ | ⟨h288, h284⟩
          · obtain ⟨u6g, h289, h284⟩ := obind h284
            refine Wc.r2 [{}, {}, { re := some (.bool true) }, {}, {}, {}, {}, { re := some (.bool true) }, {}, {}, {}, { v := some (aI (vi.length : Int)) }, {}, { r := some (.v (.bool u3q) []) }, {}, { re := some (.bool true) }, {}, {}, {}, {}, {}, { v := some (aI u6g.gKind) }] ⟨[(0, (.v (.slx), [(0, .al (.a 0 0) [])])), tP 3 3, tP 4 4, tI 5 vh, tB 29 (u6g.gKind != 0)], [bC 3 (GTerm.q zo), (4, .cells GTerm.z [(3, .app 26)])], [(0, [(0, .ex 26 false (List.map GTerm.c vi))])]⟩ (.cons (congrArg AV.bool h285) (.cons (congrArg AV.bool h286) (.cons (len_obl GTerm.c vi) (.cons (cimpl_within h287) (.cons (congrArg AV.bool h288) (.cons (ix_obl (c := GTerm.c) GTerm.c_len h289) (.cons (el_obl (sz := 4) (off := 0) (s := 1) (ag := false) (v := aI u6g.gKind) (c := GTerm.c) (GTerm.c_eq u6g) (at'_spec h289).2 rfl (Nat.le_of_ble_eq_true rfl) rfl) .nil))))))) ?_
            rcases oif h284 with ⟨h290, h284⟩ | ⟨h290, h284⟩
            · refine Wc.cT h290 ?_
              refine Wc.fx [] ⟨[(0, (.v (.slx), [(0, .al (.a 0 0) [])])), tP 3 3, tP 4 4, tI 5 vh], [bC 3 (GTerm.q zo), (4, .cells GTerm.z [(3, .app 26)])], [(0, [(0, .ex 26 false (List.map GTerm.c vi))])]⟩ ?_
              refine Wc.skip ?_
              apply Wc.seq
              refine Wc.block ?_
              obtain ⟨u4q, h291, h284⟩ := obind h284
              refine Wc.r2 [{}, {}, {}, {}, { v := some (.agg (GTerm.q u4q)) }] ⟨[(0, (.v (.slx), [(0, .al (.a 0 0) [])])), tP 3 3, tP 4 4, tI 5 vh], [bC 3 (GTerm.q u4q), (4, .cells GTerm.z [(3, .app 26)])], [(0, [(0, .ex 26 false (List.map GTerm.c vi))])]⟩ (.cons (ix_obl (c := GTerm.c) GTerm.c_len h291) (.cons (el_obl (sz := 4) (off := 0) (s := 4) (ag := true) (v := .agg (GTerm.q u4q)) (c := GTerm.c) (GTerm.c_eq u4q) (at'_spec h291).2 rfl (Nat.le_of_ble_eq_true rfl) rfl) .nil)) ?_
              refine Wc.r0 ⟨[(0, (.v (.slx), [(0, .al (.a 0 0) [])])), tP 3 3, tP 4 4, tI 5 (wr.i64 (vh + 1))], [bC 3 (GTerm.q u4q), (4, .cells GTerm.z [(3, .app 26)])], [(0, [(0, .ex 26 false (List.map GTerm.c vi))])]⟩ ?_
              exact ⟨_, Nat.lt_succ_self _, _, _, rfl, h284⟩
            · refine Wc.cF h290 ?_
              refine Wc.fx [] ⟨[tP 3 3, tP 4 4], [bC 3 (GTerm.q zo), (4, .cells GTerm.z [(3, .app 26)])], [(0, [(0, .ex 26 false (List.map GTerm.c vi))])]⟩ ?_
              refine Wc.exit ?_
              obtain rfl := Option.some.inj h284
              exact ⟨_, rfl, rfl⟩
          · refine Wc.r2 [{}, {}, { re := some (.bool true) }, {}, {}, {}, {}, { re := some (.bool true) }, {}, {}, {}, { v := some (aI (vi.length : Int)) }, {}, { r := some (.v (.bool u3q) []) }, {}, { re := some (.bool false) }] ⟨[(0, (.v (.slx), [(0, .al (.a 0 0) [])])), tP 3 3, tP 4 4, tI 5 vh, tB 29 false], [bC 3 (GTerm.q zo), (4, .cells GTerm.z [(3, .app 26)])], [(0, [(0, .ex 26 false (List.map GTerm.c vi))])]⟩ (.cons (congrArg AV.bool h285) (.cons (congrArg AV.bool h286) (.cons (len_obl GTerm.c vi) (.cons (cimpl_within h287) (.cons (congrArg AV.bool h288) .nil))))) ?_
            refine Wc.cF rfl ?_
            refine Wc.fx [] ⟨[tP 3 3, tP 4 4], [bC 3 (GTerm.q zo), (4, .cells GTerm.z [(3, .app 26)])], [(0, [(0, .ex 26 false (List.map GTerm.c vi))])]⟩ ?_
            refine Wc.exit ?_
            obtain rfl := Option.some.inj h284
            exact ⟨_, rfl, rfl⟩
        · refine Wc.r2 [{}, {}, { re := some (.bool true) }, {}, {}, {}, {}, { re := some (.bool false) }] ⟨[(0, (.v (.slx), [(0, .al (.a 0 0) [])])), tP 3 3, tP 4 4, tI 5 vh, tB 29 false], [bC 3 (GTerm.q zo), (4, .cells GTerm.z [(3, .app 26)])], [(0, [(0, .ex 26 false (List.map GTerm.c vi))])]⟩ (.cons (congrArg AV.bool h285) (.cons (congrArg AV.bool h286) .nil)) ?_
          refine Wc.cF rfl ?_
          refine Wc.fx [] ⟨[tP 3 3, tP 4 4], [bC 3 (GTerm.q zo), (4, .cells GTerm.z [(3, .app 26)])], [(0, [(0, .ex 26 false (List.map GTerm.c vi))])]⟩ ?_
          refine Wc.exit ?_
          obtain rfl := Option.some.inj h284
          exact ⟨_, rfl, rfl⟩
      · refine Wc.r2 [{}, {}, { re := some (.bool false) }] ⟨[(0, (.v (.slx), [(0, .al (.a 0 0) [])])), tP 3 3, tP 4 4, tI 5 vh, tB 29 false], [bC 3 (GTerm.q zo), (4, .cells GTerm.z [(3, .app 26)])], [(0, [(0, .ex 26 false (List.map GTerm.c vi))])]⟩ (.cons (congrArg AV.bool h285) .nil) ?_
        refine Wc.cF rfl ?_
        refine Wc.fx [] ⟨[tP 3 3, tP 4 4], [bC 3 (GTerm.q zo), (4, .cells GTerm.z [(3, .app 26)])], [(0, [(0, .ex 26 false (List.map GTerm.c vi))])]⟩ ?_
        refine Wc.exit ?_
        obtain rfl := Option.some.inj h284
        exact ⟨_, rfl, rfl⟩
  · rintro st ⟨u2b, rfl, rfl⟩
    apply Wc.seq
    refine Wc.r0 ⟨[tP 4 4], [bC 4 (GTerm.q u2b)], [(0, [(0, .ex 26 false (List.map GTerm.c vi))])]⟩ ?_
    obtain rfl := Option.some.inj h; exact Wc.ret dn

def pimpl_unifier_unify_L2 (k : Nat) (rimpl_unifier_unify : GUnifier → GTerm → GTerm → Option (GUnifier × Bool)) (u6 : (List GTerm) × GTerm) (u3 : (List GTerm) × GTerm) : Nat → Int → GUnifier → Option (Out (GUnifier × Bool) GUnifier)
  | 0, _, _ => none
  | m + 1, u0l, zr =>
    if (decide (u0l < (u6.2.gKids.length : Int))) = true then
      (at' u6.2.gKids u0l).bind fun u8p =>
      (at' u3.2.gKids u0l).bind fun uf =>
      (rimpl_unifier_unify zr u8p uf).bind fun zp =>
      if (!zp.2) = true then
        some (.ret (zp.1, false))
      else
        pimpl_unifier_unify_L2 k rimpl_unifier_unify u6 u3 m (wr.i64 (u0l + 1)) zp.1
    else
      some (.done zr)
def pimpl_unifier_unify_J1 (k : Nat) (rimpl_unifier_unify : GUnifier → GTerm → GTerm → Option (GUnifier × Bool)) (u6 : (List GTerm) × GTerm) (u3 : (List GTerm) × GTerm) (u0 : GUnifier) (u8q : Bool) : Option (GUnifier × Bool) :=
  if u8q = true then
    if (u6.2.gNum == u3.2.gNum) = true then
      some (GUnifier.mk u3.1 u0.gBound (wr.i64 (u0.gPairs + 1)), true)
    else
      if (decide (u6.2.gNum < u3.2.gNum)) = true then
        (pimpl_unifier_bind k (GUnifier.mk u3.1 u0.gBound (wr.i64 (u0.gPairs + 1))) u3.2.gNum u6.2).bind fun u2l =>
        some (u2l.1, u2l.2)
      else
        (pimpl_unifier_bind k (GUnifier.mk u3.1 u0.gBound (wr.i64 (u0.gPairs + 1))) u6.2.gNum u3.2).bind fun u2m =>
        some (u2m.1, u2m.2)
  else
    if (u6.2.gKind == 1) = true then
      (pimpl_unifier_bind k (GUnifier.mk u3.1 u0.gBound (wr.i64 (u0.gPairs + 1))) u6.2.gNum u3.2).bind fun u2n =>
      some (u2n.1, u2n.2)
    else
      if (u3.2.gKind == 1) = true then
        (pimpl_unifier_bind k (GUnifier.mk u3.1 u0.gBound (wr.i64 (u0.gPairs + 1))) u3.2.gNum u6.2).bind fun u2o =>
        some (u2o.1, u2o.2)
      else
        if (u6.2.gKind != u3.2.gKind) = true then
          some (GUnifier.mk u3.1 u0.gBound (wr.i64 (u0.gPairs + 1)), false)
        else
          if (!(sEq u6.2.gName u3.2.gName)) = true then
            some (GUnifier.mk u3.1 u0.gBound (wr.i64 (u0.gPairs + 1)), false)
          else
            if (u6.2.gNum != u3.2.gNum) = true then
              some (GUnifier.mk u3.1 u0.gBound (wr.i64 (u0.gPairs + 1)), false)
            else
              if ((u6.2.gKids.length : Int) != (u3.2.gKids.length : Int)) = true then
                some (GUnifier.mk u3.1 u0.gBound (wr.i64 (u0.gPairs + 1)), false)
              else
                (pimpl_unifier_unify_L2 k rimpl_unifier_unify u6 u3 k 0 (GUnifier.mk u3.1 u0.gBound (wr.i64 (u0.gPairs + 1)))).bind fun out2 => match out2 with
                | .ret r => some r
                | .done u35 =>
                  some (u35, true)
mutual
def pimpl_unifier_unify : Nat → GUnifier → GTerm → GTerm → Option (GUnifier × Bool)
  | 0, _, _, _ => none
  | k + 1, u0, zq, u1x =>
    if (decide ((wr.i64 (u0.gPairs + 1)) > 2000)) = true then
      some (GUnifier.mk u0.gList u0.gBound (wr.i64 (u0.gPairs + 1)), false)
    else
      (pimpl_walked_i k u0.gList zq).bind fun u6 =>
      (pimpl_walked_i k u6.1 u1x).bind fun u3 =>
      if (u6.2.gKind == 1) = true then
        pimpl_unifier_unify_J1 k (pimpl_unifier_unify k) u6 u3 u0 (u3.2.gKind == 1)
      else
        pimpl_unifier_unify_J1 k (pimpl_unifier_unify k) u6 u3 u0 false
end
set_option maxHeartbeats 4000000 in
theorem all_pimpl_unifier_unify : ∀ k : Nat, (∀ {hv0 : Value} {u0 : GUnifier} {zq : GTerm} {u1x : GTerm} {r : GUnifier × Bool}, pimpl_unifier_unify k u0 zq u1x = some r → FnO Try.prog 25 [.p [.raw hv0, .slx, aI u0.gPairs] [(0, .ex 26 false (List.map GTerm.c u0.gList)), (1, .ex 3 false (List.map cI.i64 u0.gBound))], .v (.agg (GTerm.q zq)) [], .v (.agg (GTerm.q u1x)) []] (.v (.bool r.2) []) [(0, .p [.raw hv0, .slx, aI r.1.gPairs] [(0, .ex 26 false (List.map GTerm.c r.1.gList)), (1, .ex 3 false (List.map cI.i64 r.1.gBound))])]) := by
  intro k
  induction k with
  | zero =>
    · intro hv0 u0 zq u1x r h
      exact (onone (by rw [pimpl_unifier_unify] at h; exact h)).elim
  | succ k ih =>
    have ih_pimpl_unifier_unify := @ih
    · intro hv0 u0 zq u1x r h
      rw [pimpl_unifier_unify] at h
      refine FnO.o2 Try.func25 (rfl : Try.f25.body = some _) ?_
      intro w0 X0 Fin pv0 pb gt
      apply Wc.seq
      refine Wc.r0 ⟨[tP 0 1000000, tP 4 4, tP 5 5], [bC 4 (GTerm.q zq), bC 5 (GTerm.q u1x), (1000000, .cells [.raw hv0, .slx, aI u0.gPairs] [(0, .ex 26 false (List.map GTerm.c u0.gList)), (1, .ex 3 false (List.map cI.i64 u0.gBound))])], []⟩ ?_
      apply Wc.seq
      refine Wc.r0 ⟨[tP 0 1000000, tP 4 4, tP 5 5], [bC 4 (GTerm.q zq), bC 5 (GTerm.q u1x), (1000000, .cells [.raw hv0, .slx, aI (wr.i64 (u0.gPairs + 1))] [(0, .ex 26 false (List.map GTerm.c u0.gList)), (1, .ex 3 false (List.map cI.i64 u0.gBound))])], []⟩ ?_
      apply Wc.seq
      apply Wc.seq
      refine Wc.r0 ⟨[tP 0 1000000, tP 4 4, tP 5 5, tB 19 (decide ((wr.i64 (u0.gPairs + 1)) > 2000))], [bC 4 (GTerm.q zq), bC 5 (GTerm.q u1x), (1000000, .cells [.raw hv0, .slx, aI (wr.i64 (u0.gPairs + 1))] [(0, .ex 26 false (List.map GTerm.c u0.gList)), (1, .ex 3 false (List.map cI.i64 u0.gBound))])], []⟩ ?_
      rcases oif h with ⟨h283, h⟩ | ⟨h283, h⟩
      · refine Wc.cT h283 ?_
        apply Wc.seq
        refine Wc.r0 ⟨[tB 6 false], [(1000000, .cells [.raw hv0, .slx, aI (wr.i64 (u0.gPairs + 1))] [(0, .ex 26 false (List.map GTerm.c u0.gList)), (1, .ex 3 false (List.map cI.i64 u0.gBound))])], []⟩ ?_
        obtain rfl := Option.some.inj h; exact Wc.ret dn
      · refine Wc.cF h283 ?_
        refine Wc.fx [] ⟨[tP 0 1000000, tP 4 4, tP 5 5], [bC 4 (GTerm.q zq), bC 5 (GTerm.q u1x), (1000000, .cells [.raw hv0, .slx, aI (wr.i64 (u0.gPairs + 1))] [(0, .ex 26 false (List.map GTerm.c u0.gList)), (1, .ex 3 false (List.map cI.i64 u0.gBound))])], []⟩ ?_
        refine Wc.skip ?_
        apply Wc.seq
        obtain ⟨u6, h284, h⟩ := obind h
        obtain ⟨u3, h285, h⟩ := obind h
        refine Wc.meet hmix [{}, {}, {}, {}, {}, { io := [0], r := some (.v (.agg (GTerm.q u6.2)) []), outs := [(0, .v .undef [(0, .ex 26 false (List.map GTerm.c u6.1))])] }, {}, {}, {}, {}, {}, { io := [0], r := some (.v (.agg (GTerm.q u3.2)) []), outs := [(0, .v .undef [(0, .ex 26 false (List.map GTerm.c u3.1))])] }] [[], [], [], [], [], [.al 23 1000000 0], [], [], [], [], [], [.al 29 1000000 0]] [[], [], [], [.raw 23 1000000 0], [], [], [], [], [], [.raw 29 1000000 0]] [0, 4, 5, 20, 21, 22, 23, 24, 25, 26, 27, 28, 29, 30, 31] [4, 5, 1000000] [] [] [0, 4, 5] [4, 5, 1000000] [] ⟨[tP 0 1000000, tP 4 4, tP 5 5], [bC 4 (GTerm.q u6.2), bC 5 (GTerm.q u3.2), (1000000, .cells [.raw hv0, .slx, aI (wr.i64 (u0.gPairs + 1))] [(0, .ex 26 false (List.map GTerm.c u3.1)), (1, .ex 3 false (List.map cI.i64 u0.gBound))])], []⟩ _ [0, 1, 16, 64, 1024, 3, 17, 65, 1025, 80, 1040, 192, 1088, 7, 19, 67, 1027, 81, 1041, 193, 1089, 208, 1104, 448, 1216, 15, 23, 71, 1031, 83, 1043, 195, 1091, 209, 1105, 449, 1217, 464, 1232, 960, 1472, 31, 79, 1039, 87, 1047, 199, 1095, 211, 1107, 451, 1219, 465, 1233, 961, 1473, 976, 1488, 1984, 63, 95, 1055, 207, 1103, 215, 1111, 455, 1223, 467, 1235, 963, 1475, 977, 1489, 1985, 2000, 127, 1087, 223, 1119, 463, 1231, 471, 1239, 967, 1479, 979, 1491, 1987, 2001, 255, 1151, 479, 1247, 975, 1487, 983, 1495, 1991, 2003, 511, 1279, 991, 1503, 1999, 2007, 1023, 1535, 2015, 2047, 4095, 8191, 16383] (by kernel_rfl) (by kernel_rfl) (by kernel_rfl) (by kernel_rfl) (by kernel_rfl) (.cons .nil (.cons .nil (.cons .nil (.cons .nil (.cons .nil (.cons (.cons (rfl : hv0 = hv0) (.cons (cimpl_walked_i h284) .nil)) (.cons .nil (.cons .nil (.cons .nil (.cons .nil (.cons .nil (.cons (.cons (rfl : hv0 = hv0) (.cons (cimpl_walked_i h285) .nil)) (.cons .nil (.cons .nil .nil)))))))))))))) ?_
        apply Wc.seq
        refine Wc.block ?_
        refine Wc.seqJ (fun st => ∃ (u8q : Bool), st = ⟨[tP 0 1000000, tP 4 4, tP 5 5, tB 32 u8q], [bC 4 (GTerm.q u6.2), bC 5 (GTerm.q u3.2), (1000000, .cells [.raw hv0, .slx, aI (wr.i64 (u0.gPairs + 1))] [(0, .ex 26 false (List.map GTerm.c u3.1)), (1, .ex 3 false (List.map cI.i64 u0.gBound))])], []⟩ ∧ pimpl_unifier_unify_J1 k (pimpl_unifier_unify k) u6 u3 u0 u8q = some r) ?_ ?_
        · rcases oif h with ⟨h305, h⟩ | ⟨h305, h⟩
          · refine Wc.r2 [{}, {}, {}, { re := some (.bool true) }] ⟨[tP 0 1000000, tP 4 4, tP 5 5, tB 32 (u3.2.gKind == 1)], [bC 4 (GTerm.q u6.2), bC 5 (GTerm.q u3.2), (1000000, .cells [.raw hv0, .slx, aI (wr.i64 (u0.gPairs + 1))] [(0, .ex 26 false (List.map GTerm.c u3.1)), (1, .ex 3 false (List.map cI.i64 u0.gBound))])], []⟩ (.cons (congrArg AV.bool h305) .nil) ?_
            exact ⟨_, rfl, h⟩
          · refine Wc.r2 [{}, {}, {}, { re := some (.bool false) }] ⟨[tP 0 1000000, tP 4 4, tP 5 5, tB 32 false], [bC 4 (GTerm.q u6.2), bC 5 (GTerm.q u3.2), (1000000, .cells [.raw hv0, .slx, aI (wr.i64 (u0.gPairs + 1))] [(0, .ex 26 false (List.map GTerm.c u3.1)), (1, .ex 3 false (List.map cI.i64 u0.gBound))])], []⟩ (.cons (congrArg AV.bool h305) .nil) ?_
            exact ⟨_, rfl, h⟩
        · rintro st ⟨u8q, rfl, h⟩
          rcases oif h with ⟨h286, h⟩ | ⟨h286, h⟩
          · refine Wc.cT h286 ?_
            apply Wc.seq
            apply Wc.seq
            refine Wc.r0 ⟨[tP 0 1000000, tP 4 4, tP 5 5, tB 45 (u6.2.gNum == u3.2.gNum)], [bC 4 (GTerm.q u6.2), bC 5 (GTerm.q u3.2), (1000000, .cells [.raw hv0, .slx, aI (wr.i64 (u0.gPairs + 1))] [(0, .ex 26 false (List.map GTerm.c u3.1)), (1, .ex 3 false (List.map cI.i64 u0.gBound))])], []⟩ ?_
            rcases oif h with ⟨h287, h⟩ | ⟨h287, h⟩
            · refine Wc.cT h287 ?_
              apply Wc.seq
              refine Wc.r0 ⟨[tB 6 true], [(1000000, .cells [.raw hv0, .slx, aI (wr.i64 (u0.gPairs + 1))] [(0, .ex 26 false (List.map GTerm.c u3.1)), (1, .ex 3 false (List.map cI.i64 u0.gBound))])], []⟩ ?_
              obtain rfl := Option.some.inj h; exact Wc.ret dn
            · refine Wc.cF h287 ?_
              refine Wc.fx [] ⟨[tP 0 1000000, tP 4 4, tP 5 5], [bC 4 (GTerm.q u6.2), bC 5 (GTerm.q u3.2), (1000000, .cells [.raw hv0, .slx, aI (wr.i64 (u0.gPairs + 1))] [(0, .ex 26 false (List.map GTerm.c u3.1)), (1, .ex 3 false (List.map cI.i64 u0.gBound))])], []⟩ ?_
              refine Wc.skip ?_
              apply Wc.seq
              apply Wc.seq
              refine Wc.r0 ⟨[tP 0 1000000, tP 4 4, tP 5 5, tB 50 (decide (u6.2.gNum < u3.2.gNum))], [bC 4 (GTerm.q u6.2), bC 5 (GTerm.q u3.2), (1000000, .cells [.raw hv0, .slx, aI (wr.i64 (u0.gPairs + 1))] [(0, .ex 26 false (List.map GTerm.c u3.1)), (1, .ex 3 false (List.map cI.i64 u0.gBound))])], []⟩ ?_
              rcases oif h with ⟨h288, h⟩ | ⟨h288, h⟩
              · refine Wc.cT h288 ?_
                refine Wc.r0 ⟨[tP 0 1000000, tP 4 4, tP 5 5], [bC 4 (GTerm.q u3.2), bC 5 (GTerm.q u6.2), (1000000, .cells [.raw hv0, .slx, aI (wr.i64 (u0.gPairs + 1))] [(0, .ex 26 false (List.map GTerm.c u3.1)), (1, .ex 3 false (List.map cI.i64 u0.gBound))])], []⟩ ?_
                apply Wc.seq
                obtain ⟨u2l, h289, h⟩ := obind h
                refine Wc.r2 [{}, {}, {}, {}, { r := some (.v (.bool u2l.2) []), outs := [(0, .p [.raw hv0, .slx, aI u2l.1.gPairs] [(0, .ex 26 false (List.map GTerm.c u2l.1.gList)), (1, .ex 3 false (List.map cI.i64 u2l.1.gBound))])] }] ⟨[tB 6 u2l.2], [(1000000, .cells [.raw hv0, .slx, aI u2l.1.gPairs] [(0, .ex 26 false (List.map GTerm.c u2l.1.gList)), (1, .ex 3 false (List.map cI.i64 u2l.1.gBound))])], []⟩ (.cons (cimpl_unifier_bind (hv0 := hv0) h289) .nil) ?_
                obtain rfl := Option.some.inj h; exact Wc.ret dn
              · refine Wc.cF h288 ?_
                refine Wc.fx [] ⟨[tP 0 1000000, tP 4 4, tP 5 5], [bC 4 (GTerm.q u6.2), bC 5 (GTerm.q u3.2), (1000000, .cells [.raw hv0, .slx, aI (wr.i64 (u0.gPairs + 1))] [(0, .ex 26 false (List.map GTerm.c u3.1)), (1, .ex 3 false (List.map cI.i64 u0.gBound))])], []⟩ ?_
                refine Wc.skip ?_
                apply Wc.seq
                obtain ⟨u2m, h290, h⟩ := obind h
                refine Wc.r2 [{}, {}, {}, {}, { r := some (.v (.bool u2m.2) []), outs := [(0, .p [.raw hv0, .slx, aI u2m.1.gPairs] [(0, .ex 26 false (List.map GTerm.c u2m.1.gList)), (1, .ex 3 false (List.map cI.i64 u2m.1.gBound))])] }] ⟨[tB 6 u2m.2], [(1000000, .cells [.raw hv0, .slx, aI u2m.1.gPairs] [(0, .ex 26 false (List.map GTerm.c u2m.1.gList)), (1, .ex 3 false (List.map cI.i64 u2m.1.gBound))])], []⟩ (.cons (cimpl_unifier_bind (hv0 := hv0) h290) .nil) ?_
                obtain rfl := Option.some.inj h; exact Wc.ret dn
          · refine Wc.cF h286 ?_
            apply Wc.seq
            refine Wc.r0 ⟨[tP 0 1000000, tP 4 4, tP 5 5, tB 58 (u6.2.gKind == 1)], [bC 4 (GTerm.q u6.2), bC 5 (GTerm.q u3.2), (1000000, .cells [.raw hv0, .slx, aI (wr.i64 (u0.gPairs + 1))] [(0, .ex 26 false (List.map GTerm.c u3.1)), (1, .ex 3 false (List.map cI.i64 u0.gBound))])], []⟩ ?_
            rcases oif h with ⟨h291, h⟩ | ⟨h291, h⟩
            · refine Wc.cT h291 ?_
              apply Wc.seq
              obtain ⟨u2n, h292, h⟩ := obind h
              refine Wc.r2 [{}, {}, {}, {}, { r := some (.v (.bool u2n.2) []), outs := [(0, .p [.raw hv0, .slx, aI u2n.1.gPairs] [(0, .ex 26 false (List.map GTerm.c u2n.1.gList)), (1, .ex 3 false (List.map cI.i64 u2n.1.gBound))])] }] ⟨[tB 6 u2n.2], [(1000000, .cells [.raw hv0, .slx, aI u2n.1.gPairs] [(0, .ex 26 false (List.map GTerm.c u2n.1.gList)), (1, .ex 3 false (List.map cI.i64 u2n.1.gBound))])], []⟩ (.cons (cimpl_unifier_bind (hv0 := hv0) h292) .nil) ?_
              obtain rfl := Option.some.inj h; exact Wc.ret dn
            · refine Wc.cF h291 ?_
              apply Wc.seq
              refine Wc.r0 ⟨[tP 0 1000000, tP 4 4, tP 5 5, tB 67 (u3.2.gKind == 1)], [bC 4 (GTerm.q u6.2), bC 5 (GTerm.q u3.2), (1000000, .cells [.raw hv0, .slx, aI (wr.i64 (u0.gPairs + 1))] [(0, .ex 26 false (List.map GTerm.c u3.1)), (1, .ex 3 false (List.map cI.i64 u0.gBound))])], []⟩ ?_
              rcases oif h with ⟨h293, h⟩ | ⟨h293, h⟩
              · refine Wc.cT h293 ?_
                apply Wc.seq
                obtain ⟨u2o, h294, h⟩ := obind h
                refine Wc.r2 [{}, {}, {}, {}, { r := some (.v (.bool u2o.2) []), outs := [(0, .p [.raw hv0, .slx, aI u2o.1.gPairs] [(0, .ex 26 false (List.map GTerm.c u2o.1.gList)), (1, .ex 3 false (List.map cI.i64 u2o.1.gBound))])] }] ⟨[tB 6 u2o.2], [(1000000, .cells [.raw hv0, .slx, aI u2o.1.gPairs] [(0, .ex 26 false (List.map GTerm.c u2o.1.gList)), (1, .ex 3 false (List.map cI.i64 u2o.1.gBound))])], []⟩ (.cons (cimpl_unifier_bind (hv0 := hv0) h294) .nil) ?_
                obtain rfl := Option.some.inj h; exact Wc.ret dn
              · refine Wc.cF h293 ?_
                refine Wc.fx [] ⟨[tP 0 1000000, tP 4 4, tP 5 5], [bC 4 (GTerm.q u6.2), bC 5 (GTerm.q u3.2), (1000000, .cells [.raw hv0, .slx, aI (wr.i64 (u0.gPairs + 1))] [(0, .ex 26 false (List.map GTerm.c u3.1)), (1, .ex 3 false (List.map cI.i64 u0.gBound))])], []⟩ ?_
                refine Wc.skip ?_
                apply Wc.seq
                apply Wc.seq
                rcases oif h with ⟨h295, h⟩ | ⟨h295, h⟩
                · refine Wc.r2 [{}, {}, {}, {}, {}, { re := some (.bool true) }] ⟨[tP 0 1000000, tP 4 4, tP 5 5, tB 103 true], [bC 4 (GTerm.q u6.2), bC 5 (GTerm.q u3.2), (1000000, .cells [.raw hv0, .slx, aI (wr.i64 (u0.gPairs + 1))] [(0, .ex 26 false (List.map GTerm.c u3.1)), (1, .ex 3 false (List.map cI.i64 u0.gBound))])], []⟩ (.cons (congrArg AV.bool h295) .nil) ?_
                  refine Wc.cT rfl ?_
                  apply Wc.seq
                  refine Wc.r0 ⟨[tB 6 false], [(1000000, .cells [.raw hv0, .slx, aI (wr.i64 (u0.gPairs + 1))] [(0, .ex 26 false (List.map GTerm.c u3.1)), (1, .ex 3 false (List.map cI.i64 u0.gBound))])], []⟩ ?_
                  obtain rfl := Option.some.inj h; exact Wc.ret dn
                · rcases oif h with ⟨h296, h⟩ | ⟨h296, h⟩
                  · refine Wc.r2 [{}, {}, {}, {}, {}, { re := some (.bool false) }, {}, {}, {}, {}, {}, {}, { re := some (.bool true) }] ⟨[tP 0 1000000, tP 4 4, tP 5 5, tB 103 true], [bC 4 (GTerm.q u6.2), bC 5 (GTerm.q u3.2), (1000000, .cells [.raw hv0, .slx, aI (wr.i64 (u0.gPairs + 1))] [(0, .ex 26 false (List.map GTerm.c u3.1)), (1, .ex 3 false (List.map cI.i64 u0.gBound))])], []⟩ (.cons (congrArg AV.bool h295) (.cons (congrArg AV.bool h296) .nil)) ?_
                    refine Wc.cT rfl ?_
                    apply Wc.seq
                    refine Wc.r0 ⟨[tB 6 false], [(1000000, .cells [.raw hv0, .slx, aI (wr.i64 (u0.gPairs + 1))] [(0, .ex 26 false (List.map GTerm.c u3.1)), (1, .ex 3 false (List.map cI.i64 u0.gBound))])], []⟩ ?_
                    obtain rfl := Option.some.inj h; exact Wc.ret dn
                  · rcases oif h with ⟨h297, h⟩ | ⟨h297, h⟩
                    · refine Wc.r2 [{}, {}, {}, {}, {}, { re := some (.bool false) }, {}, {}, {}, {}, {}, {}, { re := some (.bool false) }, {}, {}, {}, {}, {}, {}, { re := some (.bool true) }] ⟨[tP 0 1000000, tP 4 4, tP 5 5, tB 103 true], [bC 4 (GTerm.q u6.2), bC 5 (GTerm.q u3.2), (1000000, .cells [.raw hv0, .slx, aI (wr.i64 (u0.gPairs + 1))] [(0, .ex 26 false (List.map GTerm.c u3.1)), (1, .ex 3 false (List.map cI.i64 u0.gBound))])], []⟩ (.cons (congrArg AV.bool h295) (.cons (congrArg AV.bool h296) (.cons (congrArg AV.bool h297) .nil))) ?_
                      refine Wc.cT rfl ?_
                      apply Wc.seq
                      refine Wc.r0 ⟨[tB 6 false], [(1000000, .cells [.raw hv0, .slx, aI (wr.i64 (u0.gPairs + 1))] [(0, .ex 26 false (List.map GTerm.c u3.1)), (1, .ex 3 false (List.map cI.i64 u0.gBound))])], []⟩ ?_
                      obtain rfl := Option.some.inj h; exact Wc.ret dn
                    · refine Wc.r2 [{}, {}, {}, {}, {}, { re := some (.bool false) }, {}, {}, {}, {}, {}, {}, { re := some (.bool false) }, {}, {}, {}, {}, {}, {}, { re := some (.bool false) }, {}, {}, { v := some (aI (u6.2.gKids.length : Int)) }, {}, {}, { v := some (aI (u3.2.gKids.length : Int)) }] ⟨[tP 0 1000000, tP 4 4, tP 5 5, tB 103 ((u6.2.gKids.length : Int) != (u3.2.gKids.length : Int))], [bC 4 (GTerm.q u6.2), bC 5 (GTerm.q u3.2), (1000000, .cells [.raw hv0, .slx, aI (wr.i64 (u0.gPairs + 1))] [(0, .ex 26 false (List.map GTerm.c u3.1)), (1, .ex 3 false (List.map cI.i64 u0.gBound))])], []⟩ (.cons (congrArg AV.bool h295) (.cons (congrArg AV.bool h296) (.cons (congrArg AV.bool h297) (.cons (len_obl GTerm.c u6.2.gKids) (.cons (len_obl GTerm.c u3.2.gKids) .nil))))) ?_
                      rcases oif h with ⟨h298, h⟩ | ⟨h298, h⟩
                      · refine Wc.cT h298 ?_
                        apply Wc.seq
                        refine Wc.r0 ⟨[tB 6 false], [(1000000, .cells [.raw hv0, .slx, aI (wr.i64 (u0.gPairs + 1))] [(0, .ex 26 false (List.map GTerm.c u3.1)), (1, .ex 3 false (List.map cI.i64 u0.gBound))])], []⟩ ?_
                        obtain rfl := Option.some.inj h; exact Wc.ret dn
                      · refine Wc.cF h298 ?_
                        refine Wc.fx [] ⟨[tP 0 1000000, tP 4 4, tP 5 5], [bC 4 (GTerm.q u6.2), bC 5 (GTerm.q u3.2), (1000000, .cells [.raw hv0, .slx, aI (wr.i64 (u0.gPairs + 1))] [(0, .ex 26 false (List.map GTerm.c u3.1)), (1, .ex 3 false (List.map cI.i64 u0.gBound))])], []⟩ ?_
                        refine Wc.skip ?_
                        apply Wc.seq
                        apply Wc.seq
                        refine Wc.r2 [{}, {}, { v := some (aI (u6.2.gKids.length : Int)) }] ⟨[tP 0 1000000, tP 4 4, tP 5 5, tI 106 (u6.2.gKids.length : Int), tI 107 0], [bC 4 (GTerm.q u6.2), bC 5 (GTerm.q u3.2), (1000000, .cells [.raw hv0, .slx, aI (wr.i64 (u0.gPairs + 1))] [(0, .ex 26 false (List.map GTerm.c u3.1)), (1, .ex 3 false (List.map cI.i64 u0.gBound))])], []⟩ (.cons (len_obl GTerm.c u6.2.gKids) .nil) ?_
                        obtain ⟨out2, h299, h⟩ := obind h
                        refine Wc.lastJ (fun st => ∃ (u35 : GUnifier), out2 = .done u35 ∧ st = ⟨[], [(1000000, .cells [.raw hv0, .slx, aI u35.gPairs] [(0, .ex 26 false (List.map GTerm.c u35.gList)), (1, .ex 3 false (List.map cI.i64 u35.gBound))])], []⟩) ?_ ?_
                        · refine Wc.block ?_
                          refine Wc.loop (fun m st => ∃ (u0l : Int) (zr : GUnifier), st = ⟨[tP 0 1000000, tP 4 4, tP 5 5, tI 106 (u6.2.gKids.length : Int), tI 107 u0l], [bC 4 (GTerm.q u6.2), bC 5 (GTerm.q u3.2), (1000000, .cells [.raw hv0, .slx, aI zr.gPairs] [(0, .ex 26 false (List.map GTerm.c zr.gList)), (1, .ex 3 false (List.map cI.i64 zr.gBound))])], []⟩ ∧ pimpl_unifier_unify_L2 k (pimpl_unifier_unify k) u6 u3 m u0l zr = some out2) ?_ k ⟨_, _, rfl, h299⟩
                          rintro m st ⟨u0l, zr, rfl, h299⟩
                          cases m with
                          | zero => exact (onone h299).elim
                          | succ m =>
                            apply Wc.seq
                            refine Wc.r0 ⟨[tP 0 1000000, tP 4 4, tP 5 5, tI 106 (u6.2.gKids.length : Int), tI 107 u0l, tB 108 (decide (u0l < (u6.2.gKids.length : Int)))], [bC 4 (GTerm.q u6.2), bC 5 (GTerm.q u3.2), (1000000, .cells [.raw hv0, .slx, aI zr.gPairs] [(0, .ex 26 false (List.map GTerm.c zr.gList)), (1, .ex 3 false (List.map cI.i64 zr.gBound))])], []⟩ ?_
                            apply Wc.seq
                            rcases oif h299 with ⟨h300, h299⟩ | ⟨h300, h299⟩
                            · refine Wc.cT h300 ?_
                              refine Wc.fx [] ⟨[tP 0 1000000, tP 4 4, tP 5 5, tI 106 (u6.2.gKids.length : Int), tI 107 u0l], [bC 4 (GTerm.q u6.2), bC 5 (GTerm.q u3.2), (1000000, .cells [.raw hv0, .slx, aI zr.gPairs] [(0, .ex 26 false (List.map GTerm.c zr.gList)), (1, .ex 3 false (List.map cI.i64 zr.gBound))])], []⟩ ?_
                              refine Wc.skip ?_
                              apply Wc.seq
                              refine Wc.block ?_
                              apply Wc.seq
                              refine Wc.r0 ⟨[tP 0 1000000, tP 4 4, tP 5 5, tI 7 u0l, tI 106 (u6.2.gKids.length : Int), tI 107 u0l], [bC 4 (GTerm.q u6.2), bC 5 (GTerm.q u3.2), (1000000, .cells [.raw hv0, .slx, aI zr.gPairs] [(0, .ex 26 false (List.map GTerm.c zr.gList)), (1, .ex 3 false (List.map cI.i64 zr.gBound))])], []⟩ ?_
                              apply Wc.seq
                              obtain ⟨u8p, h301, h299⟩ := obind h299
                              obtain ⟨uf, h302, h299⟩ := obind h299
                              obtain ⟨zp, h303, h299⟩ := obind h299
                              refine Wc.draw hmix [{}, {}, {}, {}, { v := some (.vptr (GTerm.q u8p)) }, {}, {}, {}, {}, { v := some (.vptr (GTerm.q uf)) }, {}, { r := some (.v (.bool zp.2) []), outs := [(0, .p [.raw hv0, .slx, aI zp.1.gPairs] [(0, .ex 26 false (List.map GTerm.c zp.1.gList)), (1, .ex 3 false (List.map cI.i64 zp.1.gBound))])] }] [] [0, 4, 5, 106, 107, 122] [4, 5, 1000000] [] ⟨[tP 0 1000000, tP 4 4, tP 5 5, tI 106 (u6.2.gKids.length : Int), tI 107 u0l, tB 122 (!zp.2)], [bC 4 (GTerm.q u6.2), bC 5 (GTerm.q u3.2), (1000000, .cells [.raw hv0, .slx, aI zp.1.gPairs] [(0, .ex 26 false (List.map GTerm.c zp.1.gList)), (1, .ex 3 false (List.map cI.i64 zp.1.gBound))])], []⟩ _ (by kernel_rfl) (fun X => by kernel_rfl) (.cons (at_obl (c := GTerm.c) (GTerm.c_eq u8p) GTerm.c_len h301) (.cons (len_ok 4 (GTerm.q u8p)) (.cons (at_obl (c := GTerm.c) (GTerm.c_eq uf) GTerm.c_len h302) (.cons (len_ok 4 (GTerm.q uf)) (.cons (ih_pimpl_unifier_unify (hv0 := hv0) h303) .nil))))) ?_
                              rcases oif h299 with ⟨h304, h299⟩ | ⟨h304, h299⟩
                              · refine Wc.cT h304 ?_
                                apply Wc.seq
                                refine Wc.r0 ⟨[tB 6 false], [(1000000, .cells [.raw hv0, .slx, aI zp.1.gPairs] [(0, .ex 26 false (List.map GTerm.c zp.1.gList)), (1, .ex 3 false (List.map cI.i64 zp.1.gBound))])], []⟩ ?_
                                refine Wc.ret ?_
                                obtain rfl := Option.some.inj h299
                                obtain rfl := Option.some.inj h
                                exact ⟨.inl rfl, by kernel_rfl, by kernel_rfl⟩
                              · refine Wc.cF h304 ?_
                                refine Wc.fx [] ⟨[tP 0 1000000, tP 4 4, tP 5 5, tI 106 (u6.2.gKids.length : Int), tI 107 u0l], [bC 4 (GTerm.q u6.2), bC 5 (GTerm.q u3.2), (1000000, .cells [.raw hv0, .slx, aI zp.1.gPairs] [(0, .ex 26 false (List.map GTerm.c zp.1.gList)), (1, .ex 3 false (List.map cI.i64 zp.1.gBound))])], []⟩ ?_
                                refine Wc.skip ?_
                                refine Wc.r0 ⟨[tP 0 1000000, tP 4 4, tP 5 5, tI 106 (u6.2.gKids.length : Int), tI 107 (wr.i64 (u0l + 1))], [bC 4 (GTerm.q u6.2), bC 5 (GTerm.q u3.2), (1000000, .cells [.raw hv0, .slx, aI zp.1.gPairs] [(0, .ex 26 false (List.map GTerm.c zp.1.gList)), (1, .ex 3 false (List.map cI.i64 zp.1.gBound))])], []⟩ ?_
                                exact ⟨_, Nat.lt_succ_self _, _, _, rfl, h299⟩
                            · refine Wc.cF h300 ?_
                              refine Wc.fx [] ⟨[], [(1000000, .cells [.raw hv0, .slx, aI zr.gPairs] [(0, .ex 26 false (List.map GTerm.c zr.gList)), (1, .ex 3 false (List.map cI.i64 zr.gBound))])], []⟩ ?_
                              refine Wc.exit ?_
                              obtain rfl := Option.some.inj h299
                              exact ⟨_, rfl, rfl⟩
                        · rintro st ⟨u35, rfl, rfl⟩
                          apply Wc.seq
                          refine Wc.r0 ⟨[tB 6 true], [(1000000, .cells [.raw hv0, .slx, aI u35.gPairs] [(0, .ex 26 false (List.map GTerm.c u35.gList)), (1, .ex 3 false (List.map cI.i64 u35.gBound))])], []⟩ ?_
                          obtain rfl := Option.some.inj h; exact Wc.ret dn
theorem cimpl_unifier_unify {k : Nat} {hv0 : Value} {u0 : GUnifier} {zq : GTerm} {u1x : GTerm} {r : GUnifier × Bool} (h : pimpl_unifier_unify k u0 zq u1x = some r) : FnO Try.prog 25 [.p [.raw hv0, .slx, aI u0.gPairs] [(0, .ex 26 false (List.map GTerm.c u0.gList)), (1, .ex 3 false (List.map cI.i64 u0.gBound))], .v (.agg (GTerm.q zq)) [], .v (.agg (GTerm.q u1x)) []] (.v (.bool r.2) []) [(0, .p [.raw hv0, .slx, aI r.1.gPairs] [(0, .ex 26 false (List.map GTerm.c r.1.gList)), (1, .ex 3 false (List.map cI.i64 r.1.gBound))])] := (all_pimpl_unifier_unify k) h

def pimpl_renamed_on1_pimpl_copyTerm_1_d_L2 (k : Nat) (rimpl_renamed_on1_pimpl_copyTerm_1_d : GTerm → Option GTerm) (uc : GTerm) : Nat → Int → GTerm → Option (Out GTerm GTerm)
  | 0, _, _ => none
  | m + 1, z2, v2 =>
    if (decide (z2 < (uc.gKids.length : Int))) = true then
      (at' uc.gKids z2).bind fun zs =>
      (rimpl_renamed_on1_pimpl_copyTerm_1_d zs).bind fun u1y =>
      if v2.gKids.length + [u1y].length ≤ 1073741824 then
        pimpl_renamed_on1_pimpl_copyTerm_1_d_L2 k rimpl_renamed_on1_pimpl_copyTerm_1_d uc m (wr.i64 (z2 + 1)) (GTerm.mk v2.gKind v2.gName v2.gNum (v2.gKids ++ [u1y]))
      else none
    else
      some (.done v2)
def pimpl_renamed_on1_pimpl_copyTerm_1_d_J1 (k : Nat) (rimpl_renamed_on1_pimpl_copyTerm_1_d : GTerm → Option GTerm) (uc : GTerm) (u4b : GTerm) : Option GTerm :=
  (pimpl_renamed_on1_pimpl_copyTerm_1_d_L2 k rimpl_renamed_on1_pimpl_copyTerm_1_d uc k 0 u4b).bind fun out2 => match out2 with
  | .ret r => some r
  | .done zi =>
    some zi
mutual
def pimpl_renamed_on1_pimpl_copyTerm_1_d : Nat → GTerm → Option GTerm
  | 0, _ => none
  | k + 1, uc =>
    if (uc.gKind == 1) = true then
      (pimpl_copyTerm_1 k uc.gNum).bind fun ubg =>
      pimpl_renamed_on1_pimpl_copyTerm_1_d_J1 k (pimpl_renamed_on1_pimpl_copyTerm_1_d k) uc (GTerm.mk uc.gKind uc.gName ubg [])
    else
      pimpl_renamed_on1_pimpl_copyTerm_1_d_J1 k (pimpl_renamed_on1_pimpl_copyTerm_1_d k) uc (GTerm.mk uc.gKind uc.gName uc.gNum [])
end
set_option maxHeartbeats 4000000 in
theorem all_pimpl_renamed_on1_pimpl_copyTerm_1_d : ∀ k : Nat, (∀ {uc : GTerm} {r : GTerm}, pimpl_renamed_on1_pimpl_copyTerm_1_d k uc = some r → FnO Try.prog 50 [.v (.agg (GTerm.q uc)) [], .v (.func 51 []) []] (.v (.agg (GTerm.qx r)) (GTerm.h3_26t r)) []) := by
  intro k
  induction k with
  | zero =>
    · intro uc r h
      exact (onone (by rw [pimpl_renamed_on1_pimpl_copyTerm_1_d] at h; exact h)).elim
  | succ k ih =>
    have ih_pimpl_renamed_on1_pimpl_copyTerm_1_d := @ih
    · intro uc r h
      rw [pimpl_renamed_on1_pimpl_copyTerm_1_d] at h
      refine FnO.o2 Try.func50 (rfl : Try.f50.body = some _) ?_
      intro w0 X0 Fin pv0 pb gt
      apply Wc.seq
      refine Wc.r0 ⟨[tV 1 (.func 51 []), tP 2 2, tP 4 4], [bC 2 (GTerm.q uc), (4, .cells GTerm.z [(3, .app 26)])], []⟩ ?_
      apply Wc.seq
      refine Wc.r0 ⟨[tV 1 (.func 51 []), tP 2 2, tP 4 4, tP 5 5], [bC 2 (GTerm.q uc), (4, .cells GTerm.z [(3, .app 26)]), bC 5 (GTerm.q uc)], []⟩ ?_
      apply Wc.seq
      refine Wc.r0 ⟨[tV 1 (.func 51 []), tP 2 2, tP 4 4, tP 5 5], [bC 2 (GTerm.q uc), (4, .cells GTerm.z [(3, .app 26)]), (5, .cells [aI uc.gKind, .str uc.gName, aI uc.gNum, .sl (List.map GTerm.c [])] [(3, .app 26)])], []⟩ ?_
      refine Wc.seqJ (fun st => ∃ (u4b : GTerm), st = ⟨[tV 1 (.func 51 []), tP 2 2, tP 4 4, tP 5 5], [bC 2 (GTerm.q uc), (4, .cells [aI 0, .str (bs []), aI 0, .slx] [(3, .ex 26 true (List.map GTerm.c []))]), (5, .cells (GTerm.qx u4b) (GTerm.h3_26t u4b))], []⟩ ∧ pimpl_renamed_on1_pimpl_copyTerm_1_d_J1 k (pimpl_renamed_on1_pimpl_copyTerm_1_d k) uc u4b = some r) ?_ ?_
      · apply Wc.seq
        refine Wc.r0 ⟨[tV 1 (.func 51 []), tP 2 2, tP 4 4, tP 5 5, tB 12 (uc.gKind == 1)], [bC 2 (GTerm.q uc), (4, .cells GTerm.z [(3, .app 26)]), (5, .cells [aI uc.gKind, .str uc.gName, aI uc.gNum, .sl (List.map GTerm.c [])] [(3, .app 26)])], []⟩ ?_
        rcases oif h with ⟨h318, h⟩ | ⟨h318, h⟩
        · refine Wc.cT h318 ?_
          obtain ⟨ubg, h319, h⟩ := obind h
          refine Wc.r3 [{}, {}, {}, { r := some (.v (aI ubg) []) }] [.ow (.b 4 3) true, .ow (.b 5 3) true] ⟨[tV 1 (.func 51 []), tP 2 2, tP 4 4, tP 5 5], [bC 2 (GTerm.q uc), (4, .cells [aI 0, .str (bs []), aI 0, .slx] [(3, .ex 26 true (List.map GTerm.c []))]), (5, .cells [aI uc.gKind, .str uc.gName, aI ubg, .slx] [(3, .ex 26 true (List.map GTerm.c []))])], []⟩ (.cons (cimpl_copyTerm_1 h319) .nil) ?_
          exact ⟨_, rfl, h⟩
        · refine Wc.cF h318 ?_
          refine Wc.fx [.ow (.b 4 3) true, .ow (.b 5 3) true] ⟨[tV 1 (.func 51 []), tP 2 2, tP 4 4, tP 5 5], [bC 2 (GTerm.q uc), (4, .cells [aI 0, .str (bs []), aI 0, .slx] [(3, .ex 26 true (List.map GTerm.c []))]), (5, .cells (GTerm.qx uc) [(3, .ex 26 true (List.map GTerm.c []))])], []⟩ ?_
          refine Wc.skip ?_
          exact ⟨_, rfl, h⟩
      · rintro st ⟨u4b, rfl, h⟩
        apply Wc.seq
        apply Wc.seq
        refine Wc.r2 [{}, {}, { v := some (aI (uc.gKids.length : Int)) }] ⟨[tV 1 (.func 51 []), tP 4 4, tP 5 5, tV 19 (.sl (List.map GTerm.c uc.gKids)), tI 20 (uc.gKids.length : Int), tI 21 0], [(4, .cells [aI 0, .str (bs []), aI 0, .slx] [(3, .ex 26 true (List.map GTerm.c []))]), (5, .cells (GTerm.qx u4b) (GTerm.h3_26t u4b))], []⟩ (.cons (len_obl GTerm.c uc.gKids) .nil) ?_
        obtain ⟨out2, h313, h⟩ := obind h
        refine Wc.lastJ (fun st => ∃ (zi : GTerm), out2 = .done zi ∧ st = ⟨[tP 4 4, tP 5 5], [(4, .cells [aI 0, .str (bs []), aI 0, .slx] [(3, .ex 26 true (List.map GTerm.c []))]), (5, .cells (GTerm.qx zi) (GTerm.h3_26t zi))], []⟩) ?_ ?_
        · refine Wc.block ?_
          refine Wc.loop (fun m st => ∃ (z2 : Int) (v2 : GTerm), st = ⟨[tV 1 (.func 51 []), tP 4 4, tP 5 5, tV 19 (.sl (List.map GTerm.c uc.gKids)), tI 20 (uc.gKids.length : Int), tI 21 z2], [(4, .cells [aI 0, .str (bs []), aI 0, .slx] [(3, .ex 26 true (List.map GTerm.c []))]), (5, .cells (GTerm.qx v2) (GTerm.h3_26t v2))], []⟩ ∧ pimpl_renamed_on1_pimpl_copyTerm_1_d_L2 k (pimpl_renamed_on1_pimpl_copyTerm_1_d k) uc m z2 v2 = some out2) ?_ k ⟨_, _, rfl, h313⟩
          rintro m st ⟨z2, v2, rfl, h313⟩
          cases m with
          | zero => exact (onone h313).elim
          | succ m =>
            apply Wc.seq
            refine Wc.r0 ⟨[tV 1 (.func 51 []), tP 4 4, tP 5 5, tV 19 (.sl (List.map GTerm.c uc.gKids)), tI 20 (uc.gKids.length : Int), tI 21 z2, tB 22 (decide (z2 < (uc.gKids.length : Int)))], [(4, .cells [aI 0, .str (bs []), aI 0, .slx] [(3, .ex 26 true (List.map GTerm.c []))]), (5, .cells (GTerm.qx v2) (GTerm.h3_26t v2))], []⟩ ?_
            apply Wc.seq
            rcases oif h313 with ⟨h314, h313⟩ | ⟨h314, h313⟩
            · refine Wc.cT h314 ?_
              refine Wc.fx [] ⟨[tV 1 (.func 51 []), tP 4 4, tP 5 5, tV 19 (.sl (List.map GTerm.c uc.gKids)), tI 20 (uc.gKids.length : Int), tI 21 z2], [(4, .cells [aI 0, .str (bs []), aI 0, .slx] [(3, .ex 26 true (List.map GTerm.c []))]), (5, .cells (GTerm.qx v2) (GTerm.h3_26t v2))], []⟩ ?_
              refine Wc.skip ?_
              apply Wc.seq
              refine Wc.block ?_
              apply Wc.seq
              obtain ⟨zs, h315, h313⟩ := obind h313
              refine Wc.r2 [{ v := some (.vptr (GTerm.q zs)) }] ⟨[tV 1 (.func 51 []), tP 4 4, tP 5 5, tP 7 7, tV 19 (.sl (List.map GTerm.c uc.gKids)), tI 20 (uc.gKids.length : Int), tI 21 z2], [(4, .cells [aI 0, .str (bs []), aI 0, .slx] [(3, .ex 26 true (List.map GTerm.c []))]), (5, .cells (GTerm.qx v2) (GTerm.h3_26t v2)), bC 7 (GTerm.q zs)], []⟩ (.cons (at_obl (c := GTerm.c) (GTerm.c_eq zs) GTerm.c_len h315) (.cons (len_ok 4 (GTerm.q zs)) .nil)) ?_
              obtain ⟨u1y, h316, h313⟩ := obind h313
              obtain ⟨h317, h313⟩ := oguard h313
              refine Wc.draw hmix [{}, { md := 1 }, {}, {}, { r := some (.v (.agg (GTerm.qx u1y)) (GTerm.h3_26t u1y)) }, { c := some (List.map GTerm.c [u1y]), tk := [29], md := 2 }, { c := some (List.map GTerm.c (v2.gKids ++ [u1y])), tk := [26, 30], md := 2 }, {}, { tk := [31] }] [] [1, 4, 5, 19, 20, 21] [4, 5] [] ⟨[tV 1 (.func 51 []), tP 4 4, tP 5 5, tV 19 (.sl (List.map GTerm.c uc.gKids)), tI 20 (uc.gKids.length : Int), tI 21 z2], [(4, .cells [aI 0, .str (bs []), aI 0, .slx] [(3, .ex 26 true (List.map GTerm.c []))]), (5, .cells (GTerm.qx v2) [(3, .ex 26 true (List.map GTerm.c (v2.gKids ++ [u1y])))])], []⟩ _ (by kernel_rfl) (fun X => by kernel_rfl) (.cons (ih_pimpl_renamed_on1_pimpl_copyTerm_1_d h316) (.cons (cl_cons (c := GTerm.c) (x := u1y) (GTerm.c_eq u1y) (cl_nil GTerm.c)) (.cons (app_re2 GTerm.c v2.gKids [u1y]) (.cons (app_obl2 (c := GTerm.c) (xs := v2.gKids) (ys := [u1y]) GTerm.c_len h317) .nil)))) ?_
              refine Wc.r0 ⟨[tV 1 (.func 51 []), tP 4 4, tP 5 5, tV 19 (.sl (List.map GTerm.c uc.gKids)), tI 20 (uc.gKids.length : Int), tI 21 (wr.i64 (z2 + 1))], [(4, .cells [aI 0, .str (bs []), aI 0, .slx] [(3, .ex 26 true (List.map GTerm.c []))]), (5, .cells (GTerm.qx v2) [(3, .ex 26 true (List.map GTerm.c (v2.gKids ++ [u1y])))])], []⟩ ?_
              exact ⟨_, Nat.lt_succ_self _, _, _, rfl, h313⟩
            · refine Wc.cF h314 ?_
              refine Wc.fx [] ⟨[tP 4 4, tP 5 5], [(4, .cells [aI 0, .str (bs []), aI 0, .slx] [(3, .ex 26 true (List.map GTerm.c []))]), (5, .cells (GTerm.qx v2) (GTerm.h3_26t v2))], []⟩ ?_
              refine Wc.exit ?_
              obtain rfl := Option.some.inj h313
              exact ⟨_, rfl, rfl⟩
        · rintro st ⟨zi, rfl, rfl⟩
          apply Wc.seq
          refine Wc.r1 [{ md := 1 }, { tk := [34] }] ⟨[tP 4 4], [(4, .cells (GTerm.qx zi) (GTerm.h3_26t zi))], []⟩ ?_
          obtain rfl := Option.some.inj h; exact Wc.ret dn
theorem cimpl_renamed_on1_pimpl_copyTerm_1_d {k : Nat} {uc : GTerm} {r : GTerm} (h : pimpl_renamed_on1_pimpl_copyTerm_1_d k uc = some r) : FnO Try.prog 50 [.v (.agg (GTerm.q uc)) [], .v (.func 51 []) []] (.v (.agg (GTerm.qx r)) (GTerm.h3_26t r)) [] := (all_pimpl_renamed_on1_pimpl_copyTerm_1_d k) h

def pimpl_copyTerm_d (k : Nat) (u8r : GTerm) : Option GTerm :=
  (pimpl_renamed_on1_pimpl_copyTerm_1_d k u8r).bind fun u6i =>
  some u6i
theorem cimpl_copyTerm_d {k : Nat} {u8r : GTerm} {r : GTerm} (h : pimpl_copyTerm_d k u8r = some r) : FnO Try.prog 32 [.v (.agg (GTerm.q u8r)) []] (.v (.agg (GTerm.qx r)) (GTerm.h3_26t r)) [] := by
  refine FnO.o2 Try.func32 (rfl : Try.f32.body = some _) ?_
  intro w0 X0 Fin pv0 pb gt
  unfold pimpl_copyTerm_d at h
  apply Wc.seq
  refine Wc.r0 ⟨[tP 1 1, tP 2 2], [bC 1 (GTerm.q u8r), (2, .cells GTerm.z [(3, .app 26)])], []⟩ ?_
  apply Wc.seq
  obtain ⟨u6i, h309, h⟩ := obind h
  refine Wc.r2 [{}, { r := some (.v (.agg (GTerm.qx u6i)) (GTerm.h3_26t u6i)) }, { tk := [4] }] ⟨[tP 2 2], [(2, .cells (GTerm.qx u6i) (GTerm.h3_26t u6i))], []⟩ (.cons (cimpl_renamed_on1_pimpl_copyTerm_1_d h309) .nil) ?_
  obtain rfl := Option.some.inj h; exact Wc.ret dn

def pimpl_copyTerms_d_L1 (k : Nat) (vk : List GTerm) : Nat → (List GTerm) → Int → Option (Out (List GTerm) (List GTerm))
  | 0, _, _ => none
  | m + 1, u0m, z2 =>
    if (decide (z2 < (vk.length : Int))) = true then
      (at' vk z2).bind fun zi =>
      (pimpl_copyTerm_d k zi).bind fun zs =>
      if u0m.length + [zs].length ≤ 1073741824 then
        pimpl_copyTerms_d_L1 k vk m (u0m ++ [zs]) (wr.i64 (z2 + 1))
      else none
    else
      some (.done u0m)
def pimpl_copyTerms_d (k : Nat) (vk : List GTerm) : Option (List GTerm) :=
  (pimpl_copyTerms_d_L1 k vk k [] 0).bind fun out1 => match out1 with
  | .ret r => some r
  | .done u6j =>
    some u6j
theorem cimpl_copyTerms_d {k : Nat} {vk : List GTerm} {r : (List GTerm)} (h : pimpl_copyTerms_d k vk = some r) : FnO Try.prog 23 [.v (.sl (List.map GTerm.c vk)) []] (.v (.slx) [(0, .ex 26 true (List.map GTerm.c r))]) [] := by
  refine FnO.o2 Try.func23 (rfl : Try.f23.body = some _) ?_
  intro w0 X0 Fin pv0 pb gt
  unfold pimpl_copyTerms_d at h
  apply Wc.seq
  refine Wc.r0 ⟨[tV 0 (.sl (List.map GTerm.c vk))], [], []⟩ ?_
  apply Wc.seq
  refine Wc.r0 ⟨[tV 0 (.sl (List.map GTerm.c vk)), (3, (.v (.sl (List.map GTerm.c [])), [(0, .app 26)]))], [], []⟩ ?_
  apply Wc.seq
  apply Wc.seq
  refine Wc.r2 [{}, { v := some (aI (vk.length : Int)) }] ⟨[(3, (.v (.sl (List.map GTerm.c [])), [(0, .app 26)])), tV 6 (.sl (List.map GTerm.c vk)), tI 7 (vk.length : Int), tI 8 0], [], []⟩ (.cons (len_obl GTerm.c vk) .nil) ?_
  obtain ⟨out1, h311, h⟩ := obind h
  refine Wc.lastJ (fun st => ∃ (u6j : List GTerm), out1 = .done u6j ∧ st = ⟨[(3, (.v (.slx), [(0, .ex 26 true (List.map GTerm.c u6j))]))], [], []⟩) ?_ ?_
  · refine Wc.block ?_
    refine Wc.fx [.ow (.t 3 0) true] ⟨[(3, (.v (.slx), [(0, .ex 26 true (List.map GTerm.c []))])), tV 6 (.sl (List.map GTerm.c vk)), tI 7 (vk.length : Int), tI 8 0], [], []⟩ ?_
    refine Wc.loop (fun m st => ∃ (u0m : List GTerm) (z2 : Int), st = ⟨[(3, (.v (.slx), [(0, .ex 26 true (List.map GTerm.c u0m))])), tV 6 (.sl (List.map GTerm.c vk)), tI 7 (vk.length : Int), tI 8 z2], [], []⟩ ∧ pimpl_copyTerms_d_L1 k vk m u0m z2 = some out1) ?_ k ⟨_, _, rfl, h311⟩
    rintro m st ⟨u0m, z2, rfl, h311⟩
    cases m with
    | zero => exact (onone h311).elim
    | succ m =>
      apply Wc.seq
      refine Wc.r0 ⟨[(3, (.v (.slx), [(0, .ex 26 true (List.map GTerm.c u0m))])), tV 6 (.sl (List.map GTerm.c vk)), tI 7 (vk.length : Int), tI 8 z2, tB 9 (decide (z2 < (vk.length : Int)))], [], []⟩ ?_
      apply Wc.seq
      rcases oif h311 with ⟨h312, h311⟩ | ⟨h312, h311⟩
      · refine Wc.cT h312 ?_
        refine Wc.fx [] ⟨[(3, (.v (.slx), [(0, .ex 26 true (List.map GTerm.c u0m))])), tV 6 (.sl (List.map GTerm.c vk)), tI 7 (vk.length : Int), tI 8 z2], [], []⟩ ?_
        refine Wc.skip ?_
        apply Wc.seq
        refine Wc.block ?_
        apply Wc.seq
        obtain ⟨zi, h313, h311⟩ := obind h311
        refine Wc.r2 [{ v := some (.vptr (GTerm.q zi)) }] ⟨[(3, (.v (.slx), [(0, .ex 26 true (List.map GTerm.c u0m))])), tP 5 5, tV 6 (.sl (List.map GTerm.c vk)), tI 7 (vk.length : Int), tI 8 z2], [bC 5 (GTerm.q zi)], []⟩ (.cons (at_obl (c := GTerm.c) (GTerm.c_eq zi) GTerm.c_len h313) (.cons (len_ok 4 (GTerm.q zi)) .nil)) ?_
        obtain ⟨zs, h314, h311⟩ := obind h311
        obtain ⟨h315, h311⟩ := oguard h311
        refine Wc.r2 [{ tk := [3] }, {}, { r := some (.v (.agg (GTerm.qx zs)) (GTerm.h3_26t zs)) }, { c := some (List.map GTerm.c [zs]), tk := [14], md := 2 }, { c := some (List.map GTerm.c (u0m ++ [zs])), tk := [12, 15], md := 2 }, { tk := [16] }] ⟨[(3, (.v (.slx), [(0, .ex 26 true (List.map GTerm.c (u0m ++ [zs])))])), tV 6 (.sl (List.map GTerm.c vk)), tI 7 (vk.length : Int), tI 8 z2], [], []⟩ (.cons (cimpl_copyTerm_d h314) (.cons (cl_cons (c := GTerm.c) (x := zs) (GTerm.c_eq zs) (cl_nil GTerm.c)) (.cons (app_re2 GTerm.c u0m [zs]) (.cons (app_obl2 (c := GTerm.c) (xs := u0m) (ys := [zs]) GTerm.c_len h315) .nil)))) ?_
        refine Wc.r0 ⟨[(3, (.v (.slx), [(0, .ex 26 true (List.map GTerm.c (u0m ++ [zs])))])), tV 6 (.sl (List.map GTerm.c vk)), tI 7 (vk.length : Int), tI 8 (wr.i64 (z2 + 1))], [], []⟩ ?_
        exact ⟨_, Nat.lt_succ_self _, _, _, rfl, h311⟩
      · refine Wc.cF h312 ?_
        refine Wc.fx [] ⟨[(3, (.v (.slx), [(0, .ex 26 true (List.map GTerm.c u0m))]))], [], []⟩ ?_
        refine Wc.exit ?_
        obtain rfl := Option.some.inj h311
        exact ⟨_, rfl, rfl⟩
  · rintro st ⟨u6j, rfl, rfl⟩
    apply Wc.seq
    refine Wc.r1 [{ tk := [3] }, { tk := [18] }] ⟨[(2, (.v (.slx), [(0, .ex 26 true (List.map GTerm.c u6j))]))], [], []⟩ ?_
    obtain rfl := Option.some.inj h; exact Wc.ret dn

def pimpl_Unify_J1 (k : Nat) (u0n : GBinds) (u8s : Bool) (u36 : GUnifier) : Option (GBinds × Bool) :=
  if u8s = true then
    (pimpl_copyTerms k u0n.gList).bind fun ubh =>
    some (GBinds.mk ubh, false)
  else
    (pimpl_copyTerms k u36.gList).bind fun ubi =>
    some (GBinds.mk ubi, true)
def pimpl_Unify (k : Nat) (u0n : GBinds) (v2 : GTerm) (zi : GTerm) : Option (GBinds × Bool) :=
  (pimpl_copyTerms_d k u0n.gList).bind fun u4c =>
  (pimpl_TermOk k v2).bind fun u8t =>
  if (!u8t) = true then
    pimpl_Unify_J1 k u0n true (GUnifier.mk u4c [] 0)
  else
    (pimpl_TermOk k zi).bind fun ubj =>
    if (!ubj) = true then
      pimpl_Unify_J1 k u0n true (GUnifier.mk u4c [] 0)
    else
      (pimpl_unifier_unify k (GUnifier.mk u4c [] 0) v2 zi).bind fun u2p =>
      pimpl_Unify_J1 k u0n (!u2p.2) u2p.1


def pimpl_Filled (k : Nat) (u8u : GBinds) (u8v : GTerm) : Option (GTerm × Bool) :=
  (pimpl_filled k u8u.gList u8v).bind fun u4r =>
  some (u4r.1, u4r.2)


def pspec_l03At_L1 (k : Nat) (zt : List Int) (u0b : Int) : Nat → Int → Option (Out Int Unit)
  | 0, _ => none
  | m + 1, u11 =>
    if (decide (u11 < (zt.length : Int))) = true then
      (at' zt u11).bind fun u8w =>
      if (u8w == u0b) = true then
        some (.ret u11)
      else
        pspec_l03At_L1 k zt u0b m (wr.i64 (u11 + 1))
    else
      some (.done ())
def pspec_l03At (k : Nat) (zt : List Int) (u0b : Int) : Option Int :=
  (pspec_l03At_L1 k zt u0b k 0).bind fun out1 => match out1 with
  | .ret r => some r
  | .done () =>
    some (-1)
theorem cspec_l03At {k : Nat} {zt : List Int} {u0b : Int} {r : Int} (h : pspec_l03At k zt u0b = some r) : FnO Try.prog 44 [.v (.sl (List.map cI.i64 zt)) [], .v (aI u0b) []] (.v (aI r) []) [] := by
  refine FnO.o2 Try.func44 (rfl : Try.f44.body = some _) ?_
  intro w0 X0 Fin pv0 pb gt
  unfold pspec_l03At at h
  apply Wc.seq
  refine Wc.r0 ⟨[tV 0 (.sl (List.map cI.i64 zt)), tI 1 u0b], [], []⟩ ?_
  apply Wc.seq
  apply Wc.seq
  refine Wc.r0 ⟨[tV 0 (.sl (List.map cI.i64 zt)), tI 1 u0b, tI 5 0], [], []⟩ ?_
  obtain ⟨out1, h326, h⟩ := obind h
  refine Wc.lastJ (fun st => out1 = .done () ∧ st = ⟨[], [], []⟩) ?_ ?_
  · refine Wc.block ?_
    refine Wc.loop (fun m st => ∃ (u11 : Int), st = ⟨[tV 0 (.sl (List.map cI.i64 zt)), tI 1 u0b, tI 5 u11], [], []⟩ ∧ pspec_l03At_L1 k zt u0b m u11 = some out1) ?_ k ⟨_, rfl, h326⟩
    rintro m st ⟨u11, rfl, h326⟩
    cases m with
    | zero => exact (onone h326).elim
    | succ m =>
      apply Wc.seq
      apply Wc.seq
      refine Wc.r2 [{}, {}, { v := some (aI (zt.length : Int)) }] ⟨[tV 0 (.sl (List.map cI.i64 zt)), tI 1 u0b, tI 5 u11, tB 9 (decide (u11 < (zt.length : Int)))], [], []⟩ (.cons (len_obl cI.i64 zt) .nil) ?_
      rcases oif h326 with ⟨h327, h326⟩ | ⟨h327, h326⟩
      · refine Wc.cT h327 ?_
        refine Wc.fx [] ⟨[tV 0 (.sl (List.map cI.i64 zt)), tI 1 u0b, tI 5 u11], [], []⟩ ?_
        refine Wc.skip ?_
        apply Wc.seq
        refine Wc.block ?_
        apply Wc.seq
        obtain ⟨u8w, h328, h326⟩ := obind h326
        refine Wc.r2 [{}, {}, { v := some (.vptr [aI u8w]) }] ⟨[tV 0 (.sl (List.map cI.i64 zt)), tI 1 u0b, tI 5 u11, tB 17 (u8w == u0b)], [], []⟩ (.cons (at_obl (c := cI.i64) rfl cI.i64_len h328) (.cons (len_ok 1 [aI u8w]) .nil)) ?_
        rcases oif h326 with ⟨h329, h326⟩ | ⟨h329, h326⟩
        · refine Wc.cT h329 ?_
          apply Wc.seq
          refine Wc.r0 ⟨[tI 4 u11], [], []⟩ ?_
          refine Wc.ret ?_
          obtain rfl := Option.some.inj h326
          obtain rfl := Option.some.inj h
          exact ⟨.inl rfl, by kernel_rfl, by kernel_rfl⟩
        · refine Wc.cF h329 ?_
          refine Wc.fx [] ⟨[tV 0 (.sl (List.map cI.i64 zt)), tI 1 u0b, tI 5 u11], [], []⟩ ?_
          refine Wc.skip ?_
          refine Wc.r0 ⟨[tV 0 (.sl (List.map cI.i64 zt)), tI 1 u0b, tI 5 (wr.i64 (u11 + 1))], [], []⟩ ?_
          exact ⟨_, Nat.lt_succ_self _, _, rfl, h326⟩
      · refine Wc.cF h327 ?_
        refine Wc.fx [] ⟨[], [], []⟩ ?_
        refine Wc.exit ?_
        obtain rfl := Option.some.inj h326
        exact ⟨rfl, rfl⟩
  · rintro st ⟨rfl, rfl⟩
    apply Wc.seq
    refine Wc.r0 ⟨[tI 4 (-1)], [], []⟩ ?_
    obtain rfl := Option.some.inj h; exact Wc.ret dn

def pspec_l03Like_L1 (k : Nat) (rspec_l03Like : GTerm → GTerm → (List Int) → (List Int) → Option Bool) (us : GTerm) (uv : GTerm) (vl : List Int) (vm : List Int) : Nat → Int → Option (Out Bool Unit)
  | 0, _ => none
  | m + 1, u1e =>
    if (decide (u1e < (us.gKids.length : Int))) = true then
      (at' us.gKids u1e).bind fun u8x =>
      (at' uv.gKids u1e).bind fun u8y =>
      (rspec_l03Like u8x u8y vl vm).bind fun ubk =>
      if (!ubk) = true then
        some (.ret false)
      else
        pspec_l03Like_L1 k rspec_l03Like us uv vl vm m (wr.i64 (u1e + 1))
    else
      some (.done ())
mutual
def pspec_l03Like : Nat → GTerm → GTerm → (List Int) → (List Int) → Option Bool
  | 0, _, _, _, _ => none
  | k + 1, us, uv, vl, vm =>
    if (us.gKind != uv.gKind) = true then
      some false
    else
      if (!(sEq us.gName uv.gName)) = true then
        some false
      else
        if ((us.gKids.length : Int) != (uv.gKids.length : Int)) = true then
          some false
        else
          if (us.gKind == 1) = true then
            (pspec_l03At k vl us.gNum).bind fun ubl =>
            (pspec_l03At k vm uv.gNum).bind fun ubm =>
            some (ubl == ubm)
          else
            if (us.gNum != uv.gNum) = true then
              some false
            else
              (pspec_l03Like_L1 k (pspec_l03Like k) us uv vl vm k 0).bind fun out1 => match out1 with
              | .ret r => some r
              | .done () =>
                some true
end
set_option maxHeartbeats 4000000 in
theorem all_pspec_l03Like : ∀ k : Nat, (∀ {us : GTerm} {uv : GTerm} {vl : List Int} {vm : List Int} {r : Bool}, pspec_l03Like k us uv vl vm = some r → FnO Try.prog 27 [.v (.agg (GTerm.q us)) [], .v (.agg (GTerm.q uv)) [], .v (.sl (List.map cI.i64 vl)) [], .v (.sl (List.map cI.i64 vm)) []] (.v (.bool r) []) []) := by
  intro k
  induction k with
  | zero =>
    · intro us uv vl vm r h
      exact (onone (by rw [pspec_l03Like] at h; exact h)).elim
  | succ k ih =>
    have ih_pspec_l03Like := @ih
    · intro us uv vl vm r h
      rw [pspec_l03Like] at h
      refine FnO.o2 Try.func27 (rfl : Try.f27.body = some _) ?_
      intro w0 X0 Fin pv0 pb gt
      apply Wc.seq
      refine Wc.r0 ⟨[tV 2 (.sl (List.map cI.i64 vl)), tV 3 (.sl (List.map cI.i64 vm)), tP 4 4, tP 5 5], [bC 4 (GTerm.q us), bC 5 (GTerm.q uv)], []⟩ ?_
      apply Wc.seq
      apply Wc.seq
      rcases oif h with ⟨h330, h⟩ | ⟨h330, h⟩
      · refine Wc.r2 [{}, {}, {}, {}, {}, { re := some (.bool true) }] ⟨[tV 2 (.sl (List.map cI.i64 vl)), tV 3 (.sl (List.map cI.i64 vm)), tP 4 4, tP 5 5, tB 30 true], [bC 4 (GTerm.q us), bC 5 (GTerm.q uv)], []⟩ (.cons (congrArg AV.bool h330) .nil) ?_
        refine Wc.cT rfl ?_
        apply Wc.seq
        refine Wc.r0 ⟨[tB 8 false], [], []⟩ ?_
        obtain rfl := Option.some.inj h; exact Wc.ret dn
      · rcases oif h with ⟨h331, h⟩ | ⟨h331, h⟩
        · refine Wc.r2 [{}, {}, {}, {}, {}, { re := some (.bool false) }, {}, {}, {}, {}, {}, {}, { re := some (.bool true) }] ⟨[tV 2 (.sl (List.map cI.i64 vl)), tV 3 (.sl (List.map cI.i64 vm)), tP 4 4, tP 5 5, tB 30 true], [bC 4 (GTerm.q us), bC 5 (GTerm.q uv)], []⟩ (.cons (congrArg AV.bool h330) (.cons (congrArg AV.bool h331) .nil)) ?_
          refine Wc.cT rfl ?_
          apply Wc.seq
          refine Wc.r0 ⟨[tB 8 false], [], []⟩ ?_
          obtain rfl := Option.some.inj h; exact Wc.ret dn
        · refine Wc.r2 [{}, {}, {}, {}, {}, { re := some (.bool false) }, {}, {}, {}, {}, {}, {}, { re := some (.bool false) }, {}, {}, { v := some (aI (us.gKids.length : Int)) }, {}, {}, { v := some (aI (uv.gKids.length : Int)) }] ⟨[tV 2 (.sl (List.map cI.i64 vl)), tV 3 (.sl (List.map cI.i64 vm)), tP 4 4, tP 5 5, tB 30 ((us.gKids.length : Int) != (uv.gKids.length : Int))], [bC 4 (GTerm.q us), bC 5 (GTerm.q uv)], []⟩ (.cons (congrArg AV.bool h330) (.cons (congrArg AV.bool h331) (.cons (len_obl GTerm.c us.gKids) (.cons (len_obl GTerm.c uv.gKids) .nil)))) ?_
          rcases oif h with ⟨h332, h⟩ | ⟨h332, h⟩
          · refine Wc.cT h332 ?_
            apply Wc.seq
            refine Wc.r0 ⟨[tB 8 false], [], []⟩ ?_
            obtain rfl := Option.some.inj h; exact Wc.ret dn
          · refine Wc.cF h332 ?_
            refine Wc.fx [] ⟨[tV 2 (.sl (List.map cI.i64 vl)), tV 3 (.sl (List.map cI.i64 vm)), tP 4 4, tP 5 5], [bC 4 (GTerm.q us), bC 5 (GTerm.q uv)], []⟩ ?_
            refine Wc.skip ?_
            apply Wc.seq
            apply Wc.seq
            refine Wc.r0 ⟨[tV 2 (.sl (List.map cI.i64 vl)), tV 3 (.sl (List.map cI.i64 vm)), tP 4 4, tP 5 5, tB 33 (us.gKind == 1)], [bC 4 (GTerm.q us), bC 5 (GTerm.q uv)], []⟩ ?_
            rcases oif h with ⟨h333, h⟩ | ⟨h333, h⟩
            · refine Wc.cT h333 ?_
              apply Wc.seq
              obtain ⟨ubl, h334, h⟩ := obind h
              obtain ⟨ubm, h335, h⟩ := obind h
              refine Wc.draw hmix [{}, {}, {}, { r := some (.v (aI ubl) []) }, {}, {}, {}, { r := some (.v (aI ubm) []) }] [] [8] [] [] ⟨[tB 8 (ubl == ubm)], [], []⟩ _ (by kernel_rfl) (fun X => by kernel_rfl) (.cons (cspec_l03At h334) (.cons (cspec_l03At h335) .nil)) ?_
              obtain rfl := Option.some.inj h; exact Wc.ret dn
            · refine Wc.cF h333 ?_
              refine Wc.fx [] ⟨[tV 2 (.sl (List.map cI.i64 vl)), tV 3 (.sl (List.map cI.i64 vm)), tP 4 4, tP 5 5], [bC 4 (GTerm.q us), bC 5 (GTerm.q uv)], []⟩ ?_
              refine Wc.skip ?_
              apply Wc.seq
              apply Wc.seq
              refine Wc.r0 ⟨[tV 2 (.sl (List.map cI.i64 vl)), tV 3 (.sl (List.map cI.i64 vm)), tP 4 4, tP 5 5, tB 47 (us.gNum != uv.gNum)], [bC 4 (GTerm.q us), bC 5 (GTerm.q uv)], []⟩ ?_
              rcases oif h with ⟨h336, h⟩ | ⟨h336, h⟩
              · refine Wc.cT h336 ?_
                apply Wc.seq
                refine Wc.r0 ⟨[tB 8 false], [], []⟩ ?_
                obtain rfl := Option.some.inj h; exact Wc.ret dn
              · refine Wc.cF h336 ?_
                refine Wc.fx [] ⟨[tV 2 (.sl (List.map cI.i64 vl)), tV 3 (.sl (List.map cI.i64 vm)), tP 4 4, tP 5 5], [bC 4 (GTerm.q us), bC 5 (GTerm.q uv)], []⟩ ?_
                refine Wc.skip ?_
                apply Wc.seq
                apply Wc.seq
                refine Wc.r0 ⟨[tV 2 (.sl (List.map cI.i64 vl)), tV 3 (.sl (List.map cI.i64 vm)), tP 4 4, tP 5 5, tI 9 0], [bC 4 (GTerm.q us), bC 5 (GTerm.q uv)], []⟩ ?_
                obtain ⟨out1, h337, h⟩ := obind h
                refine Wc.lastJ (fun st => out1 = .done () ∧ st = ⟨[], [], []⟩) ?_ ?_
                · refine Wc.block ?_
                  refine Wc.loop (fun m st => ∃ (u1e : Int), st = ⟨[tV 2 (.sl (List.map cI.i64 vl)), tV 3 (.sl (List.map cI.i64 vm)), tP 4 4, tP 5 5, tI 9 u1e], [bC 4 (GTerm.q us), bC 5 (GTerm.q uv)], []⟩ ∧ pspec_l03Like_L1 k (pspec_l03Like k) us uv vl vm m u1e = some out1) ?_ k ⟨_, rfl, h337⟩
                  rintro m st ⟨u1e, rfl, h337⟩
                  cases m with
                  | zero => exact (onone h337).elim
                  | succ m =>
                    apply Wc.seq
                    apply Wc.seq
                    refine Wc.r2 [{}, {}, {}, { v := some (aI (us.gKids.length : Int)) }] ⟨[tV 2 (.sl (List.map cI.i64 vl)), tV 3 (.sl (List.map cI.i64 vm)), tP 4 4, tP 5 5, tI 9 u1e, tB 52 (decide (u1e < (us.gKids.length : Int)))], [bC 4 (GTerm.q us), bC 5 (GTerm.q uv)], []⟩ (.cons (len_obl GTerm.c us.gKids) .nil) ?_
                    rcases oif h337 with ⟨h338, h337⟩ | ⟨h338, h337⟩
                    · refine Wc.cT h338 ?_
                      refine Wc.fx [] ⟨[tV 2 (.sl (List.map cI.i64 vl)), tV 3 (.sl (List.map cI.i64 vm)), tP 4 4, tP 5 5, tI 9 u1e], [bC 4 (GTerm.q us), bC 5 (GTerm.q uv)], []⟩ ?_
                      refine Wc.skip ?_
                      apply Wc.seq
                      refine Wc.block ?_
                      apply Wc.seq
                      obtain ⟨u8x, h339, h337⟩ := obind h337
                      obtain ⟨u8y, h340, h337⟩ := obind h337
                      obtain ⟨ubk, h341, h337⟩ := obind h337
                      refine Wc.draw hmix [{}, {}, {}, { v := some (.vptr (GTerm.q u8x)) }, {}, {}, {}, {}, { v := some (.vptr (GTerm.q u8y)) }, {}, {}, {}, { r := some (.v (.bool ubk) []) }] [] [2, 3, 4, 5, 9, 68] [4, 5] [] ⟨[tV 2 (.sl (List.map cI.i64 vl)), tV 3 (.sl (List.map cI.i64 vm)), tP 4 4, tP 5 5, tI 9 u1e, tB 68 (!ubk)], [bC 4 (GTerm.q us), bC 5 (GTerm.q uv)], []⟩ _ (by kernel_rfl) (fun X => by kernel_rfl) (.cons (at_obl (c := GTerm.c) (GTerm.c_eq u8x) GTerm.c_len h339) (.cons (len_ok 4 (GTerm.q u8x)) (.cons (at_obl (c := GTerm.c) (GTerm.c_eq u8y) GTerm.c_len h340) (.cons (len_ok 4 (GTerm.q u8y)) (.cons (ih_pspec_l03Like h341) .nil))))) ?_
                      rcases oif h337 with ⟨h342, h337⟩ | ⟨h342, h337⟩
                      · refine Wc.cT h342 ?_
                        apply Wc.seq
                        refine Wc.r0 ⟨[tB 8 false], [], []⟩ ?_
                        refine Wc.ret ?_
                        obtain rfl := Option.some.inj h337
                        obtain rfl := Option.some.inj h
                        exact ⟨.inl rfl, by kernel_rfl, by kernel_rfl⟩
                      · refine Wc.cF h342 ?_
                        refine Wc.fx [] ⟨[tV 2 (.sl (List.map cI.i64 vl)), tV 3 (.sl (List.map cI.i64 vm)), tP 4 4, tP 5 5, tI 9 u1e], [bC 4 (GTerm.q us), bC 5 (GTerm.q uv)], []⟩ ?_
                        refine Wc.skip ?_
                        refine Wc.r0 ⟨[tV 2 (.sl (List.map cI.i64 vl)), tV 3 (.sl (List.map cI.i64 vm)), tP 4 4, tP 5 5, tI 9 (wr.i64 (u1e + 1))], [bC 4 (GTerm.q us), bC 5 (GTerm.q uv)], []⟩ ?_
                        exact ⟨_, Nat.lt_succ_self _, _, rfl, h337⟩
                    · refine Wc.cF h338 ?_
                      refine Wc.fx [] ⟨[], [], []⟩ ?_
                      refine Wc.exit ?_
                      obtain rfl := Option.some.inj h337
                      exact ⟨rfl, rfl⟩
                · rintro st ⟨rfl, rfl⟩
                  apply Wc.seq
                  refine Wc.r0 ⟨[tB 8 true], [], []⟩ ?_
                  obtain rfl := Option.some.inj h; exact Wc.ret dn
theorem cspec_l03Like {k : Nat} {us : GTerm} {uv : GTerm} {vl : List Int} {vm : List Int} {r : Bool} (h : pspec_l03Like k us uv vl vm = some r) : FnO Try.prog 27 [.v (.agg (GTerm.q us)) [], .v (.agg (GTerm.q uv)) [], .v (.sl (List.map cI.i64 vl)) [], .v (.sl (List.map cI.i64 vm)) []] (.v (.bool r) []) [] := (all_pspec_l03Like k) h

def pspec_l03Has_L1 (k : Nat) (zu : List Int) (u0c : Int) : Nat → Int → Option (Out Bool Unit)
  | 0, _ => none
  | m + 1, u1z =>
    if (decide (u1z < (zu.length : Int))) = true then
      (at' zu u1z).bind fun u8z =>
      if (u8z == u0c) = true then
        some (.ret true)
      else
        pspec_l03Has_L1 k zu u0c m (wr.i64 (u1z + 1))
    else
      some (.done ())
def pspec_l03Has (k : Nat) (zu : List Int) (u0c : Int) : Option Bool :=
  (pspec_l03Has_L1 k zu u0c k 0).bind fun out1 => match out1 with
  | .ret r => some r
  | .done () =>
    some false
theorem cspec_l03Has {k : Nat} {zu : List Int} {u0c : Int} {r : Bool} (h : pspec_l03Has k zu u0c = some r) : FnO Try.prog 62 [.v (.sl (List.map cI.i64 zu)) [], .v (aI u0c) []] (.v (.bool r) []) [] := by
  refine FnO.o2 Try.func62 (rfl : Try.f62.body = some _) ?_
  intro w0 X0 Fin pv0 pb gt
  unfold pspec_l03Has at h
  apply Wc.seq
  refine Wc.r0 ⟨[tV 0 (.sl (List.map cI.i64 zu)), tI 1 u0c], [], []⟩ ?_
  apply Wc.seq
  apply Wc.seq
  refine Wc.r0 ⟨[tV 0 (.sl (List.map cI.i64 zu)), tI 1 u0c, tI 5 0], [], []⟩ ?_
  obtain ⟨out1, h343, h⟩ := obind h
  refine Wc.lastJ (fun st => out1 = .done () ∧ st = ⟨[], [], []⟩) ?_ ?_
  · refine Wc.block ?_
    refine Wc.loop (fun m st => ∃ (u1z : Int), st = ⟨[tV 0 (.sl (List.map cI.i64 zu)), tI 1 u0c, tI 5 u1z], [], []⟩ ∧ pspec_l03Has_L1 k zu u0c m u1z = some out1) ?_ k ⟨_, rfl, h343⟩
    rintro m st ⟨u1z, rfl, h343⟩
    cases m with
    | zero => exact (onone h343).elim
    | succ m =>
      apply Wc.seq
      apply Wc.seq
      refine Wc.r2 [{}, {}, { v := some (aI (zu.length : Int)) }] ⟨[tV 0 (.sl (List.map cI.i64 zu)), tI 1 u0c, tI 5 u1z, tB 9 (decide (u1z < (zu.length : Int)))], [], []⟩ (.cons (len_obl cI.i64 zu) .nil) ?_
      rcases oif h343 with ⟨h344, h343⟩ | ⟨h344, h343⟩
      · refine Wc.cT h344 ?_
        refine Wc.fx [] ⟨[tV 0 (.sl (List.map cI.i64 zu)), tI 1 u0c, tI 5 u1z], [], []⟩ ?_
        refine Wc.skip ?_
        apply Wc.seq
        refine Wc.block ?_
        apply Wc.seq
        obtain ⟨u8z, h345, h343⟩ := obind h343
        refine Wc.r2 [{}, {}, { v := some (.vptr [aI u8z]) }] ⟨[tV 0 (.sl (List.map cI.i64 zu)), tI 1 u0c, tI 5 u1z, tB 17 (u8z == u0c)], [], []⟩ (.cons (at_obl (c := cI.i64) rfl cI.i64_len h345) (.cons (len_ok 1 [aI u8z]) .nil)) ?_
        rcases oif h343 with ⟨h346, h343⟩ | ⟨h346, h343⟩
        · refine Wc.cT h346 ?_
          apply Wc.seq
          refine Wc.r0 ⟨[tB 4 true], [], []⟩ ?_
          refine Wc.ret ?_
          obtain rfl := Option.some.inj h343
          obtain rfl := Option.some.inj h
          exact ⟨.inl rfl, by kernel_rfl, by kernel_rfl⟩
        · refine Wc.cF h346 ?_
          refine Wc.fx [] ⟨[tV 0 (.sl (List.map cI.i64 zu)), tI 1 u0c, tI 5 u1z], [], []⟩ ?_
          refine Wc.skip ?_
          refine Wc.r0 ⟨[tV 0 (.sl (List.map cI.i64 zu)), tI 1 u0c, tI 5 (wr.i64 (u1z + 1))], [], []⟩ ?_
          exact ⟨_, Nat.lt_succ_self _, _, rfl, h343⟩
      · refine Wc.cF h344 ?_
        refine Wc.fx [] ⟨[], [], []⟩ ?_
        refine Wc.exit ?_
        obtain rfl := Option.some.inj h343
        exact ⟨rfl, rfl⟩
  · rintro st ⟨rfl, rfl⟩
    apply Wc.seq
    refine Wc.r0 ⟨[tB 4 false], [], []⟩ ?_
    obtain rfl := Option.some.inj h; exact Wc.ret dn

def pspec_l03Vars_L2 (k : Nat) (rspec_l03Vars : GTerm → (List Int) → Option (List Int)) (uk : GTerm) : Nat → (List Int) → Int → Option (Out (List Int) (List Int))
  | 0, _, _ => none
  | m + 1, u3t, u2c =>
    if (decide (u2c < (uk.gKids.length : Int))) = true then
      (at' uk.gKids u2c).bind fun u90 =>
      (rspec_l03Vars u90 u3t).bind fun u91 =>
      pspec_l03Vars_L2 k rspec_l03Vars uk m u91 (wr.i64 (u2c + 1))
    else
      some (.done u3t)
def pspec_l03Vars_J1 (k : Nat) (rspec_l03Vars : GTerm → (List Int) → Option (List Int)) (uk : GTerm) (u6k : List Int) : Option (List Int) :=
  (pspec_l03Vars_L2 k rspec_l03Vars uk k u6k 0).bind fun out2 => match out2 with
  | .ret r => some r
  | .done u6l =>
    some u6l
def pspec_l03Vars_J3 (k : Nat) (rspec_l03Vars : GTerm → (List Int) → Option (List Int)) (z9 : List Int) (uk : GTerm) (u92 : Bool) : Option (List Int) :=
  if u92 = true then
    if z9.length + [uk.gNum].length ≤ 1073741824 then
      pspec_l03Vars_J1 k rspec_l03Vars uk (z9 ++ [uk.gNum])
    else none
  else
    pspec_l03Vars_J1 k rspec_l03Vars uk z9
mutual
def pspec_l03Vars : Nat → GTerm → (List Int) → Option (List Int)
  | 0, _, _ => none
  | k + 1, uk, z9 =>
    if (uk.gKind == 1) = true then
      (pspec_l03Has k z9 uk.gNum).bind fun ubn =>
      pspec_l03Vars_J3 k (pspec_l03Vars k) z9 uk (!ubn)
    else
      pspec_l03Vars_J3 k (pspec_l03Vars k) z9 uk false
end
theorem all_pspec_l03Vars : ∀ k : Nat, (∀ {uk : GTerm} {z9 : List Int} {r : (List Int)}, pspec_l03Vars k uk z9 = some r → FnO Try.prog 45 [.v (.agg (GTerm.q uk)) [], .v (.slx) [(0, .ex 3 false (List.map cI.i64 z9))]] (.v (.slx) [(0, .ex 3 false (List.map cI.i64 r))]) []) := by
  intro k
  induction k with
  | zero =>
    · intro uk z9 r h
      exact (onone (by rw [pspec_l03Vars] at h; exact h)).elim
  | succ k ih =>
    have ih_pspec_l03Vars := @ih
    · intro uk z9 r h
      rw [pspec_l03Vars] at h
      refine FnO.o2 Try.func45 (rfl : Try.f45.body = some _) ?_
      intro w0 X0 Fin pv0 pb gt
      apply Wc.seq
      refine Wc.r0 ⟨[(1, (.v (.slx), [(0, .ex 3 false (List.map cI.i64 z9))])), tP 2 2], [bC 2 (GTerm.q uk)], []⟩ ?_
      refine Wc.seqJ (fun st => ∃ (u6k : List Int), st = ⟨[(1, (.v (.slx), [(0, .ex 3 false (List.map cI.i64 u6k))])), tP 2 2], [bC 2 (GTerm.q uk)], []⟩ ∧ pspec_l03Vars_J1 k (pspec_l03Vars k) uk u6k = some r) ?_ ?_
      · refine Wc.seqJ (fun st => ∃ (u92 : Bool), st = ⟨[(1, (.v (.slx), [(0, .ex 3 false (List.map cI.i64 z9))])), tP 2 2, tB 15 u92], [bC 2 (GTerm.q uk)], []⟩ ∧ pspec_l03Vars_J3 k (pspec_l03Vars k) z9 uk u92 = some r) ?_ ?_
        · rcases oif h with ⟨h361, h⟩ | ⟨h361, h⟩
          · obtain ⟨ubn, h362, h⟩ := obind h
            refine Wc.r2 [{}, {}, {}, { re := some (.bool true) }, {}, {}, {}, { r := some (.v (.bool ubn) []) }] ⟨[(1, (.v (.slx), [(0, .ex 3 false (List.map cI.i64 z9))])), tP 2 2, tB 15 (!ubn)], [bC 2 (GTerm.q uk)], []⟩ (.cons (congrArg AV.bool h361) (.cons (cspec_l03Has h362) .nil)) ?_
            exact ⟨_, rfl, h⟩
          · refine Wc.r2 [{}, {}, {}, { re := some (.bool false) }] ⟨[(1, (.v (.slx), [(0, .ex 3 false (List.map cI.i64 z9))])), tP 2 2, tB 15 false], [bC 2 (GTerm.q uk)], []⟩ (.cons (congrArg AV.bool h361) .nil) ?_
            exact ⟨_, rfl, h⟩
        · rintro st ⟨u92, rfl, h⟩
          rcases oif h with ⟨h359, h⟩ | ⟨h359, h⟩
          · refine Wc.cT h359 ?_
            obtain ⟨h360, h⟩ := oguard h
            refine Wc.r2 [{ tk := [1] }, {}, {}, { c := some (List.map cI.i64 [uk.gNum]) }, { c := some (List.map cI.i64 (z9 ++ [uk.gNum])), tk := [16], md := 1 }, { tk := [20] }] ⟨[(1, (.v (.slx), [(0, .ex 3 false (List.map cI.i64 (z9 ++ [uk.gNum])))])), tP 2 2], [bC 2 (GTerm.q uk)], []⟩ (.cons (cl_cons (c := cI.i64) (x := uk.gNum) rfl (cl_nil cI.i64)) (.cons (app_re2 cI.i64 z9 [uk.gNum]) (.cons (app_leaf (c := cI.i64) (ys := [uk.gNum]) cI.i64_leaf) (.cons (app_obl2 (c := cI.i64) (xs := z9) (ys := [uk.gNum]) cI.i64_len h360) .nil)))) ?_
            exact ⟨_, rfl, h⟩
          · refine Wc.cF h359 ?_
            refine Wc.fx [] ⟨[(1, (.v (.slx), [(0, .ex 3 false (List.map cI.i64 z9))])), tP 2 2], [bC 2 (GTerm.q uk)], []⟩ ?_
            refine Wc.skip ?_
            exact ⟨_, rfl, h⟩
      · rintro st ⟨u6k, rfl, h⟩
        apply Wc.seq
        apply Wc.seq
        refine Wc.r0 ⟨[(1, (.v (.slx), [(0, .ex 3 false (List.map cI.i64 u6k))])), tP 2 2, tI 5 0], [bC 2 (GTerm.q uk)], []⟩ ?_
        obtain ⟨out2, h355, h⟩ := obind h
        refine Wc.lastJ (fun st => ∃ (u6l : List Int), out2 = .done u6l ∧ st = ⟨[(1, (.v (.slx), [(0, .ex 3 false (List.map cI.i64 u6l))]))], [], []⟩) ?_ ?_
        · refine Wc.block ?_
          refine Wc.loop (fun m st => ∃ (u3t : List Int) (u2c : Int), st = ⟨[(1, (.v (.slx), [(0, .ex 3 false (List.map cI.i64 u3t))])), tP 2 2, tI 5 u2c], [bC 2 (GTerm.q uk)], []⟩ ∧ pspec_l03Vars_L2 k (pspec_l03Vars k) uk m u3t u2c = some out2) ?_ k ⟨_, _, rfl, h355⟩
          rintro m st ⟨u3t, u2c, rfl, h355⟩
          cases m with
          | zero => exact (onone h355).elim
          | succ m =>
            apply Wc.seq
            apply Wc.seq
            refine Wc.r2 [{}, {}, {}, { v := some (aI (uk.gKids.length : Int)) }] ⟨[(1, (.v (.slx), [(0, .ex 3 false (List.map cI.i64 u3t))])), tP 2 2, tI 5 u2c, tB 25 (decide (u2c < (uk.gKids.length : Int)))], [bC 2 (GTerm.q uk)], []⟩ (.cons (len_obl GTerm.c uk.gKids) .nil) ?_
            rcases oif h355 with ⟨h356, h355⟩ | ⟨h356, h355⟩
            · refine Wc.cT h356 ?_
              refine Wc.fx [] ⟨[(1, (.v (.slx), [(0, .ex 3 false (List.map cI.i64 u3t))])), tP 2 2, tI 5 u2c], [bC 2 (GTerm.q uk)], []⟩ ?_
              refine Wc.skip ?_
              apply Wc.seq
              refine Wc.block ?_
              obtain ⟨u90, h357, h355⟩ := obind h355
              obtain ⟨u91, h358, h355⟩ := obind h355
              refine Wc.r2 [{}, {}, {}, { v := some (.vptr (GTerm.q u90)) }, {}, { tk := [1] }, { tk := [33], r := some (.v (.slx) [(0, .ex 3 false (List.map cI.i64 u91))]) }, { tk := [34] }] ⟨[(1, (.v (.slx), [(0, .ex 3 false (List.map cI.i64 u91))])), tP 2 2, tI 5 u2c], [bC 2 (GTerm.q uk)], []⟩ (.cons (at_obl (c := GTerm.c) (GTerm.c_eq u90) GTerm.c_len h357) (.cons (len_ok 4 (GTerm.q u90)) (.cons (ih_pspec_l03Vars h358) .nil))) ?_
              refine Wc.r0 ⟨[(1, (.v (.slx), [(0, .ex 3 false (List.map cI.i64 u91))])), tP 2 2, tI 5 (wr.i64 (u2c + 1))], [bC 2 (GTerm.q uk)], []⟩ ?_
              exact ⟨_, Nat.lt_succ_self _, _, _, rfl, h355⟩
            · refine Wc.cF h356 ?_
              refine Wc.fx [] ⟨[(1, (.v (.slx), [(0, .ex 3 false (List.map cI.i64 u3t))]))], [], []⟩ ?_
              refine Wc.exit ?_
              obtain rfl := Option.some.inj h355
              exact ⟨_, rfl, rfl⟩
        · rintro st ⟨u6l, rfl, rfl⟩
          apply Wc.seq
          refine Wc.r1 [{ tk := [1] }, { tk := [35] }] ⟨[(4, (.v (.slx), [(0, .ex 3 false (List.map cI.i64 u6l))]))], [], []⟩ ?_
          obtain rfl := Option.some.inj h; exact Wc.ret dn
theorem cspec_l03Vars {k : Nat} {uk : GTerm} {z9 : List Int} {r : (List Int)} (h : pspec_l03Vars k uk z9 = some r) : FnO Try.prog 45 [.v (.agg (GTerm.q uk)) [], .v (.slx) [(0, .ex 3 false (List.map cI.i64 z9))]] (.v (.slx) [(0, .ex 3 false (List.map cI.i64 r))]) [] := (all_pspec_l03Vars k) h

def pspec_VarsOf (k : Nat) (u93 : GTerm) : Option (List Int) :=
  (pspec_l03Vars k u93 []).bind fun u94 =>
  some u94
theorem cspec_VarsOf {k : Nat} {u93 : GTerm} {r : (List Int)} (h : pspec_VarsOf k u93 = some r) : FnO Try.prog 28 [.v (.agg (GTerm.q u93)) []] (.v (.sl (List.map cI.i64 r)) []) [] := by
  refine FnO.o2 Try.func28 (rfl : Try.f28.body = some _) ?_
  intro w0 X0 Fin pv0 pb gt
  unfold pspec_VarsOf at h
  apply Wc.seq
  refine Wc.r0 ⟨[tP 1 1], [bC 1 (GTerm.q u93)], []⟩ ?_
  apply Wc.seq
  obtain ⟨u94, h363, h⟩ := obind h
  refine Wc.r2 [{}, { c := some (List.map cI.i64 []), md := 1 }, { tk := [4], r := some (.v (.slx) [(0, .ex 3 false (List.map cI.i64 u94))]) }, { tk := [5] }] ⟨[(2, (.v (.slx), [(0, .ex 3 false (List.map cI.i64 u94))]))], [], []⟩ (.cons (cl_nil cI.i64) (.cons (cspec_l03Vars h363) .nil)) ?_
  refine Wc.fx [.sh (.t 2 0)] ⟨[tV 2 (.sl (List.map cI.i64 u94))], [], []⟩ ?_
  obtain rfl := Option.some.inj h; exact Wc.ret dn

def pspec_Variant (k : Nat) (u6m : GTerm) (u6n : GTerm) : Option Bool :=
  (pspec_VarsOf k u6m).bind fun uce =>
  (pspec_VarsOf k u6n).bind fun ucf =>
  (pspec_l03Like k u6m u6n uce ucf).bind fun ubo =>
  some ubo
theorem cspec_Variant {k : Nat} {u6m : GTerm} {u6n : GTerm} {r : Bool} (h : pspec_Variant k u6m u6n = some r) : FnO Try.prog 10 [.v (.agg (GTerm.q u6m)) [], .v (.agg (GTerm.q u6n)) []] (.v (.bool r) []) [] := by
  refine FnO.o2 Try.func10 (rfl : Try.f10.body = some _) ?_
  intro w0 X0 Fin pv0 pb gt
  unfold pspec_Variant at h
  apply Wc.seq
  refine Wc.r0 ⟨[tP 2 2, tP 3 3], [bC 2 (GTerm.q u6m), bC 3 (GTerm.q u6n)], []⟩ ?_
  apply Wc.seq
  obtain ⟨uce, h364, h⟩ := obind h
  obtain ⟨ucf, h365, h⟩ := obind h
  obtain ⟨ubo, h366, h⟩ := obind h
  refine Wc.draw hmix [{}, {}, {}, { r := some (.v (.sl (List.map cI.i64 uce)) []) }, {}, { r := some (.v (.sl (List.map cI.i64 ucf)) []) }, { r := some (.v (.bool ubo) []) }] [] [4] [] [] ⟨[tB 4 ubo], [], []⟩ _ (by kernel_rfl) (fun X => by kernel_rfl) (.cons (cspec_VarsOf h364) (.cons (cspec_VarsOf h365) (.cons (cspec_l03Like h366) .nil))) ?_
  obtain rfl := Option.some.inj h; exact Wc.ret dn
end Go.Proofs.Ytcdbdmokaihcoaa

/- What the functions do, part 1. -/
import Derived.Test.YtkmifafdenblcaaTy
set_option linter.unusedVariables false
set_option linter.unusedSimpArgs false
namespace Go.Proofs.Ytkmifafdenblcaa
open Go.RowKit Go.Bv
def plaws_big (k : Nat) (u59 : List Int) : Option Bool :=
  some (decide ((u59.length : Int) > 1048576))
theorem claws_big {k : Nat} {u59 : List Int} {r : Bool} (h : plaws_big k u59 = some r) : FnO Try.prog 13 [.v (.sl (List.map cI.u8 u59)) []] (.v (.bool r) []) [] := by
  refine FnO.o2 Try.func13 (rfl : Try.f13.body = some _) ?_
  intro w0 X0 Fin pv0 pb gt
  unfold plaws_big at h
  apply Wc.seq
  refine Wc.r0 ⟨[tV 0 (.sl (List.map cI.u8 u59))], [], []⟩ ?_
  apply Wc.seq
  refine Wc.r2 [{}, { v := some (aI (u59.length : Int)) }] ⟨[tB 2 (decide ((u59.length : Int) > 1048576))], [], []⟩ (.cons (len_obl cI.u8 u59) .nil) ?_
  obtain rfl := Option.some.inj h; exact Wc.ret dn

def pspec_l01New_L1 (k : Nat) (vm : List Int) : Nat → Int → Int → Option (Out GL01Cur Int)
  | 0, _, _ => none
  | m + 1, u2d, u2e =>
    if (decide (u2e < (vm.length : Int))) = true then
      if (decide (u2e < 4000)) = true then
        (at' vm u2e).bind fun u74 =>
        pspec_l01New_L1 k vm m (band .i64 (wr.i64 ((wr.i64 ((wr.i64 (u2d * 131)) + (wr.i64 u74))) + 7)) 1073741823) (wr.i64 (u2e + 1))
      else
        some (.done u2d)
    else
      some (.done u2d)
def pspec_l01New (k : Nat) (vm : List Int) : Option GL01Cur :=
  (pspec_l01New_L1 k vm k (wr.i64 (95101 + (vm.length : Int))) 0).bind fun out1 => match out1 with
  | .ret r => some r
  | .done u75 =>
    some (GL01Cur.mk vm 0 u75)
theorem cspec_l01New {k : Nat} {vm : List Int} {r : GL01Cur} (h : pspec_l01New k vm = some r) : FnO Try.prog 50 [.v (.sl (List.map cI.u8 vm)) []] (.p (GL01Cur.q r) []) [] := by
  refine FnO.o2 Try.func50 (rfl : Try.f50.body = some _) ?_
  intro w0 X0 Fin pv0 pb gt
  unfold pspec_l01New at h
  apply Wc.seq
  refine Wc.r0 ⟨[tV 0 (.sl (List.map cI.u8 vm))], [], []⟩ ?_
  apply Wc.seq
  refine Wc.r2 [{}, { v := some (aI (vm.length : Int)) }] ⟨[tV 0 (.sl (List.map cI.u8 vm)), tI 3 (wr.i64 (95101 + (vm.length : Int)))], [], []⟩ (.cons (len_obl cI.u8 vm) .nil) ?_
  apply Wc.seq
  apply Wc.seq
  refine Wc.r0 ⟨[tV 0 (.sl (List.map cI.u8 vm)), tI 3 (wr.i64 (95101 + (vm.length : Int))), tI 4 0], [], []⟩ ?_
  obtain ⟨out1, h1, h⟩ := obind h
  refine Wc.lastJ (fun st => ∃ (u75 : Int), out1 = .done u75 ∧ st = ⟨[tV 0 (.sl (List.map cI.u8 vm)), tI 3 u75], [], []⟩) ?_ ?_
  · refine Wc.block ?_
    refine Wc.loop (fun m st => ∃ (u2d : Int) (u2e : Int), st = ⟨[tV 0 (.sl (List.map cI.u8 vm)), tI 3 u2d, tI 4 u2e], [], []⟩ ∧ pspec_l01New_L1 k vm m u2d u2e = some out1) ?_ k ⟨_, _, rfl, h1⟩
    rintro m st ⟨u2d, u2e, rfl, h1⟩
    cases m with
    | zero => exact (onone h1).elim
    | succ m =>
      apply Wc.seq
      apply Wc.seq
      rcases oif h1 with ⟨h2, h1⟩ | ⟨h2, h1⟩
      · refine Wc.r2 [{}, {}, { v := some (aI (vm.length : Int)) }, {}, { re := some (.bool true) }] ⟨[tV 0 (.sl (List.map cI.u8 vm)), tI 3 u2d, tI 4 u2e, tB 15 (decide (u2e < 4000))], [], []⟩ (.cons (len_obl cI.u8 vm) (.cons (congrArg AV.bool h2) .nil)) ?_
        rcases oif h1 with ⟨h3, h1⟩ | ⟨h3, h1⟩
        · refine Wc.cT h3 ?_
          refine Wc.fx [] ⟨[tV 0 (.sl (List.map cI.u8 vm)), tI 3 u2d, tI 4 u2e], [], []⟩ ?_
          refine Wc.skip ?_
          apply Wc.seq
          refine Wc.block ?_
          obtain ⟨u74, h4, h1⟩ := obind h1
          refine Wc.r2 [{}, {}, {}, {}, { v := some (.vptr [.int .u8 u74]) }] ⟨[tV 0 (.sl (List.map cI.u8 vm)), tI 3 (band .i64 (wr.i64 ((wr.i64 ((wr.i64 (u2d * 131)) + (wr.i64 u74))) + 7)) 1073741823), tI 4 u2e], [], []⟩ (.cons (at_obl (c := cI.u8) rfl cI.u8_len h4) (.cons (len_ok 1 [.int .u8 u74]) .nil)) ?_
          refine Wc.r0 ⟨[tV 0 (.sl (List.map cI.u8 vm)), tI 3 (band .i64 (wr.i64 ((wr.i64 ((wr.i64 (u2d * 131)) + (wr.i64 u74))) + 7)) 1073741823), tI 4 (wr.i64 (u2e + 1))], [], []⟩ ?_
          exact ⟨_, Nat.lt_succ_self _, _, _, rfl, h1⟩
        · refine Wc.cF h3 ?_
          refine Wc.fx [] ⟨[tV 0 (.sl (List.map cI.u8 vm)), tI 3 u2d], [], []⟩ ?_
          refine Wc.exit ?_
          obtain rfl := Option.some.inj h1
          exact ⟨_, rfl, rfl⟩
      · refine Wc.r2 [{}, {}, { v := some (aI (vm.length : Int)) }, {}, { re := some (.bool false) }] ⟨[tV 0 (.sl (List.map cI.u8 vm)), tI 3 u2d, tI 4 u2e, tB 15 false], [], []⟩ (.cons (len_obl cI.u8 vm) (.cons (congrArg AV.bool h2) .nil)) ?_
        refine Wc.cF rfl ?_
        refine Wc.fx [] ⟨[tV 0 (.sl (List.map cI.u8 vm)), tI 3 u2d], [], []⟩ ?_
        refine Wc.exit ?_
        obtain rfl := Option.some.inj h1
        exact ⟨_, rfl, rfl⟩
  · rintro st ⟨u75, rfl, rfl⟩
    apply Wc.seq
    refine Wc.r0 ⟨[tP 2 31], [bC 31 [.sl (List.map cI.u8 vm), aI 0, aI u75]], []⟩ ?_
    obtain rfl := Option.some.inj h; exact Wc.ret dn

def pspec_l01Byte (k : Nat) (ug : GL01Cur) : Option (GL01Cur × Int) :=
  if (decide (ug.gI < (ug.gB.length : Int))) = true then
    (at' ug.gB ug.gI).bind fun u5u =>
    some (GL01Cur.mk ug.gB (wr.i64 (ug.gI + 1)) (wr.i64 ((wr.i64 (ug.gH * 6364136223846793005)) + 1442695040888963407)), band .i64 (wr.i64 ((band .i64 (bxor .i64 (bshr .i64 (wr.i64 ((wr.i64 (ug.gH * 6364136223846793005)) + 1442695040888963407)) 33) (bshr .i64 (wr.i64 ((wr.i64 (ug.gH * 6364136223846793005)) + 1442695040888963407)) 45)) 255) + (wr.i64 u5u))) 255)
  else
    some (GL01Cur.mk ug.gB ug.gI (wr.i64 ((wr.i64 (ug.gH * 6364136223846793005)) + 1442695040888963407)), band .i64 (bxor .i64 (bshr .i64 (wr.i64 ((wr.i64 (ug.gH * 6364136223846793005)) + 1442695040888963407)) 33) (bshr .i64 (wr.i64 ((wr.i64 (ug.gH * 6364136223846793005)) + 1442695040888963407)) 45)) 255)
theorem cspec_l01Byte {k : Nat} {ug : GL01Cur} {r : GL01Cur × Int} (h : pspec_l01Byte k ug = some r) : FnO Try.prog 51 [.p (GL01Cur.q ug) []] (.v (aI r.2) []) [(0, .p (GL01Cur.q r.1) [])] := by
  refine FnO.o2 Try.func51 (rfl : Try.f51.body = some _) ?_
  intro w0 X0 Fin pv0 pb gt
  unfold pspec_l01Byte at h
  apply Wc.seq
  refine Wc.r0 ⟨[tP 0 1000000], [bC 1000000 (GL01Cur.q ug)], []⟩ ?_
  apply Wc.seq
  refine Wc.r0 ⟨[tP 0 1000000], [bC 1000000 [.sl (List.map cI.u8 ug.gB), aI ug.gI, aI (wr.i64 ((wr.i64 (ug.gH * 6364136223846793005)) + 1442695040888963407))]], []⟩ ?_
  apply Wc.seq
  refine Wc.draw hmix [] [] [0, 3] [1000000] [] ⟨[tP 0 1000000, tI 3 (band .i64 (bxor .i64 (bshr .i64 (wr.i64 ((wr.i64 (ug.gH * 6364136223846793005)) + 1442695040888963407)) 33) (bshr .i64 (wr.i64 ((wr.i64 (ug.gH * 6364136223846793005)) + 1442695040888963407)) 45)) 255)], [bC 1000000 [.sl (List.map cI.u8 ug.gB), aI ug.gI, aI (wr.i64 ((wr.i64 (ug.gH * 6364136223846793005)) + 1442695040888963407))]], []⟩ _ (by kernel_rfl) (fun X => by kernel_rfl) (.cons (show (0 : Int) ≤ 33 by decide) (.cons (show (0 : Int) ≤ 45 by decide) .nil)) ?_
  apply Wc.seq
  apply Wc.seq
  refine Wc.draw hmix [{}, {}, {}, {}, {}, {}, {}, {}, { v := some (aI (ug.gB.length : Int)) }] [] [0, 3, 34] [1000000] [] ⟨[tP 0 1000000, tI 3 (band .i64 (bxor .i64 (bshr .i64 (wr.i64 ((wr.i64 (ug.gH * 6364136223846793005)) + 1442695040888963407)) 33) (bshr .i64 (wr.i64 ((wr.i64 (ug.gH * 6364136223846793005)) + 1442695040888963407)) 45)) 255), tB 34 (decide (ug.gI < (ug.gB.length : Int)))], [bC 1000000 [.sl (List.map cI.u8 ug.gB), aI ug.gI, aI (wr.i64 ((wr.i64 (ug.gH * 6364136223846793005)) + 1442695040888963407))]], []⟩ _ (by kernel_rfl) (fun X => by kernel_rfl) (.cons (len_obl cI.u8 ug.gB) .nil) ?_
  rcases oif h with ⟨h5, h⟩ | ⟨h5, h⟩
  · refine Wc.cT h5 ?_
    apply Wc.seq
    obtain ⟨u5u, h6, h⟩ := obind h
    refine Wc.draw hmix [{}, {}, {}, {}, {}, {}, {}, {}, {}, { v := some (.vptr [.int .u8 u5u]) }] [] [0, 3] [1000000] [] ⟨[tP 0 1000000, tI 3 (band .i64 (wr.i64 ((band .i64 (bxor .i64 (bshr .i64 (wr.i64 ((wr.i64 (ug.gH * 6364136223846793005)) + 1442695040888963407)) 33) (bshr .i64 (wr.i64 ((wr.i64 (ug.gH * 6364136223846793005)) + 1442695040888963407)) 45)) 255) + (wr.i64 u5u))) 255)], [bC 1000000 [.sl (List.map cI.u8 ug.gB), aI ug.gI, aI (wr.i64 ((wr.i64 (ug.gH * 6364136223846793005)) + 1442695040888963407))]], []⟩ _ (by kernel_rfl) (fun X => by kernel_rfl) (.cons (at_obl (c := cI.u8) rfl cI.u8_len h6) (.cons (len_ok 1 [.int .u8 u5u]) .nil)) ?_
    refine Wc.r0 ⟨[tI 3 (band .i64 (wr.i64 ((band .i64 (bxor .i64 (bshr .i64 (wr.i64 ((wr.i64 (ug.gH * 6364136223846793005)) + 1442695040888963407)) 33) (bshr .i64 (wr.i64 ((wr.i64 (ug.gH * 6364136223846793005)) + 1442695040888963407)) 45)) 255) + (wr.i64 u5u))) 255)], [bC 1000000 [.sl (List.map cI.u8 ug.gB), aI (wr.i64 (ug.gI + 1)), aI (wr.i64 ((wr.i64 (ug.gH * 6364136223846793005)) + 1442695040888963407))]], []⟩ ?_
    apply Wc.seq
    refine Wc.r0 ⟨[tI 2 (band .i64 (wr.i64 ((band .i64 (bxor .i64 (bshr .i64 (wr.i64 ((wr.i64 (ug.gH * 6364136223846793005)) + 1442695040888963407)) 33) (bshr .i64 (wr.i64 ((wr.i64 (ug.gH * 6364136223846793005)) + 1442695040888963407)) 45)) 255) + (wr.i64 u5u))) 255)], [bC 1000000 [.sl (List.map cI.u8 ug.gB), aI (wr.i64 (ug.gI + 1)), aI (wr.i64 ((wr.i64 (ug.gH * 6364136223846793005)) + 1442695040888963407))]], []⟩ ?_
    obtain rfl := Option.some.inj h; exact Wc.ret dn
  · refine Wc.cF h5 ?_
    refine Wc.fx [] ⟨[tI 3 (band .i64 (bxor .i64 (bshr .i64 (wr.i64 ((wr.i64 (ug.gH * 6364136223846793005)) + 1442695040888963407)) 33) (bshr .i64 (wr.i64 ((wr.i64 (ug.gH * 6364136223846793005)) + 1442695040888963407)) 45)) 255)], [bC 1000000 [.sl (List.map cI.u8 ug.gB), aI ug.gI, aI (wr.i64 ((wr.i64 (ug.gH * 6364136223846793005)) + 1442695040888963407))]], []⟩ ?_
    refine Wc.skip ?_
    apply Wc.seq
    refine Wc.r0 ⟨[tI 2 (band .i64 (bxor .i64 (bshr .i64 (wr.i64 ((wr.i64 (ug.gH * 6364136223846793005)) + 1442695040888963407)) 33) (bshr .i64 (wr.i64 ((wr.i64 (ug.gH * 6364136223846793005)) + 1442695040888963407)) 45)) 255)], [bC 1000000 [.sl (List.map cI.u8 ug.gB), aI ug.gI, aI (wr.i64 ((wr.i64 (ug.gH * 6364136223846793005)) + 1442695040888963407))]], []⟩ ?_
    obtain rfl := Option.some.inj h; exact Wc.ret dn

def pspec_l01Below (k : Nat) (u36 : GL01Cur) (u02 : Int) : Option (GL01Cur × Int) :=
  if (decide (u02 ≤ 0)) = true then
    some (u36, 0)
  else
    if (decide (u02 ≤ 256)) = true then
      (pspec_l01Byte k u36).bind fun u5v =>
      if (u02 : Int) ≠ 0 then
        some (u5v.1, Int.tmod u5v.2 u02)
      else none
    else
      (pspec_l01Byte k u36).bind fun u3k =>
      (pspec_l01Byte k u3k.1).bind fun u3x =>
      (pspec_l01Byte k u3x.1).bind fun u4f =>
      (pspec_l01Byte k u4f.1).bind fun u4g =>
      if (u02 : Int) ≠ 0 then
        some (u4g.1, Int.tmod (wr.i64 ((wr.i64 ((wr.i64 ((wr.i64 (u3k.2 * 16777216)) + (wr.i64 (u3x.2 * 65536)))) + (wr.i64 (u4f.2 * 256)))) + u4g.2)) u02)
      else none
theorem cspec_l01Below {k : Nat} {u36 : GL01Cur} {u02 : Int} {r : GL01Cur × Int} (h : pspec_l01Below k u36 u02 = some r) : FnO Try.prog 52 [.p (GL01Cur.q u36) [], .v (aI u02) []] (.v (aI r.2) []) [(0, .p (GL01Cur.q r.1) [])] := by
  refine FnO.o2 Try.func52 (rfl : Try.f52.body = some _) ?_
  intro w0 X0 Fin pv0 pb gt
  unfold pspec_l01Below at h
  apply Wc.seq
  refine Wc.r0 ⟨[tP 0 1000000, tI 1 u02], [bC 1000000 (GL01Cur.q u36)], []⟩ ?_
  apply Wc.seq
  apply Wc.seq
  refine Wc.r0 ⟨[tP 0 1000000, tI 1 u02, tB 10 (decide (u02 ≤ 0))], [bC 1000000 (GL01Cur.q u36)], []⟩ ?_
  rcases oif h with ⟨h7, h⟩ | ⟨h7, h⟩
  · refine Wc.cT h7 ?_
    apply Wc.seq
    refine Wc.r0 ⟨[tI 4 0], [bC 1000000 (GL01Cur.q u36)], []⟩ ?_
    obtain rfl := Option.some.inj h; exact Wc.ret dn
  · refine Wc.cF h7 ?_
    refine Wc.fx [] ⟨[tP 0 1000000, tI 1 u02], [bC 1000000 (GL01Cur.q u36)], []⟩ ?_
    refine Wc.skip ?_
    apply Wc.seq
    apply Wc.seq
    refine Wc.r0 ⟨[tP 0 1000000, tI 1 u02, tB 12 (decide (u02 ≤ 256))], [bC 1000000 (GL01Cur.q u36)], []⟩ ?_
    rcases oif h with ⟨h8, h⟩ | ⟨h8, h⟩
    · refine Wc.cT h8 ?_
      apply Wc.seq
      obtain ⟨u5v, h9, h⟩ := obind h
      obtain ⟨h10, h⟩ := oguard h
      refine Wc.r2 [{}, { r := some (.v (aI u5v.2) []), outs := [(0, .p (GL01Cur.q u5v.1) [])] }] ⟨[tI 4 (Int.tmod u5v.2 u02)], [bC 1000000 (GL01Cur.q u5v.1)], []⟩ (.cons (cspec_l01Byte h9) (.cons h10 .nil)) ?_
      obtain rfl := Option.some.inj h; exact Wc.ret dn
    · refine Wc.cF h8 ?_
      refine Wc.fx [] ⟨[tP 0 1000000, tI 1 u02], [bC 1000000 (GL01Cur.q u36)], []⟩ ?_
      refine Wc.skip ?_
      apply Wc.seq
      obtain ⟨u3k, h11, h⟩ := obind h
      refine Wc.r2 [{}, { r := some (.v (aI u3k.2) []), outs := [(0, .p (GL01Cur.q u3k.1) [])] }] ⟨[tP 0 1000000, tI 1 u02, tI 5 u3k.2], [bC 1000000 (GL01Cur.q u3k.1)], []⟩ (.cons (cspec_l01Byte h11) .nil) ?_
      apply Wc.seq
      obtain ⟨u3x, h12, h⟩ := obind h
      refine Wc.r2 [{}, { r := some (.v (aI u3x.2) []), outs := [(0, .p (GL01Cur.q u3x.1) [])] }] ⟨[tP 0 1000000, tI 1 u02, tI 5 u3k.2, tI 6 u3x.2], [bC 1000000 (GL01Cur.q u3x.1)], []⟩ (.cons (cspec_l01Byte h12) .nil) ?_
      apply Wc.seq
      obtain ⟨u4f, h13, h⟩ := obind h
      refine Wc.r2 [{}, { r := some (.v (aI u4f.2) []), outs := [(0, .p (GL01Cur.q u4f.1) [])] }] ⟨[tP 0 1000000, tI 1 u02, tI 5 u3k.2, tI 6 u3x.2, tI 7 u4f.2], [bC 1000000 (GL01Cur.q u4f.1)], []⟩ (.cons (cspec_l01Byte h13) .nil) ?_
      apply Wc.seq
      obtain ⟨u4g, h14, h⟩ := obind h
      refine Wc.r2 [{}, { r := some (.v (aI u4g.2) []), outs := [(0, .p (GL01Cur.q u4g.1) [])] }] ⟨[tI 1 u02, tI 5 u3k.2, tI 6 u3x.2, tI 7 u4f.2, tI 8 u4g.2], [bC 1000000 (GL01Cur.q u4g.1)], []⟩ (.cons (cspec_l01Byte h14) .nil) ?_
      apply Wc.seq
      obtain ⟨h15, h⟩ := oguard h
      refine Wc.r2 [] ⟨[tI 4 (Int.tmod (wr.i64 ((wr.i64 ((wr.i64 ((wr.i64 (u3k.2 * 16777216)) + (wr.i64 (u3x.2 * 65536)))) + (wr.i64 (u4f.2 * 256)))) + u4g.2)) u02)], [bC 1000000 (GL01Cur.q u4g.1)], []⟩ (.cons h15 .nil) ?_
      obtain rfl := Option.some.inj h; exact Wc.ret dn

def pspec_DrawPlaces_L1 (k : Nat) : Nat → (List Int) → Int → GL01Cur → Option (Out (List Int) (List Int))
  | 0, _, _, _ => none
  | m + 1, u1w, u3l, u5w =>
    if (decide (u3l < 12)) = true then
      (pspec_l01Below k u5w 10000).bind fun u1i =>
      if u1w.length + [u1i.2].length ≤ 1073741824 then
        pspec_DrawPlaces_L1 k m (u1w ++ [u1i.2]) (wr.i64 (u3l + 1)) u1i.1
      else none
    else
      some (.done u1w)
def pspec_DrawPlaces (k : Nat) (u9g : List Int) : Option (List Int) :=
  (pspec_l01New k u9g).bind fun ucg =>
  (pspec_l01Byte k ucg).bind fun u5x =>
  (pspec_DrawPlaces_L1 k k [] 0 u5x.1).bind fun out1 => match out1 with
  | .ret r => some r
  | .done u76 =>
    some u76
theorem cspec_DrawPlaces {k : Nat} {u9g : List Int} {r : (List Int)} (h : pspec_DrawPlaces k u9g = some r) : FnO Try.prog 14 [.v (.sl (List.map cI.u8 u9g)) []] (.v (.sl (List.map cI.i64 r)) [(0, .app 3)]) [] := by
  refine FnO.o2 Try.func14 (rfl : Try.f14.body = some _) ?_
  intro w0 X0 Fin pv0 pb gt
  unfold pspec_DrawPlaces at h
  apply Wc.seq
  refine Wc.r0 ⟨[tV 0 (.sl (List.map cI.u8 u9g))], [], []⟩ ?_
  apply Wc.seq
  obtain ⟨ucg, h22, h⟩ := obind h
  refine Wc.r2 [{}, { r := some (.p (GL01Cur.q ucg) []) }] ⟨[tP 3 7], [bC 7 (GL01Cur.q ucg)], []⟩ (.cons (cspec_l01New h22) .nil) ?_
  apply Wc.seq
  obtain ⟨u5x, h23, h⟩ := obind h
  refine Wc.r2 [{}, { r := some (.v (aI u5x.2) []), outs := [(0, .p (GL01Cur.q u5x.1) [])] }] ⟨[tP 3 7], [bC 7 (GL01Cur.q u5x.1)], []⟩ (.cons (cspec_l01Byte h23) .nil) ?_
  apply Wc.seq
  refine Wc.r2 [{ c := some (List.map cI.i64 []) }, { tk := [10] }] ⟨[tP 3 7, (4, (.v (.sl (List.map cI.i64 [])), [(0, .app 3)]))], [bC 7 (GL01Cur.q u5x.1)], []⟩ (.cons (cl_nil cI.i64) .nil) ?_
  apply Wc.seq
  apply Wc.seq
  refine Wc.r0 ⟨[tP 3 7, (4, (.v (.sl (List.map cI.i64 [])), [(0, .app 3)])), tI 5 0], [bC 7 (GL01Cur.q u5x.1)], []⟩ ?_
  obtain ⟨out1, h24, h⟩ := obind h
  refine Wc.lastJ (fun st => ∃ (u76 : List Int), out1 = .done u76 ∧ st = ⟨[(4, (.v (.sl (List.map cI.i64 u76)), [(0, .app 3)]))], [], []⟩) ?_ ?_
  · refine Wc.block ?_
    refine Wc.loop (fun m st => ∃ (u1w : List Int) (u3l : Int) (u5w : GL01Cur), st = ⟨[tP 3 7, (4, (.v (.sl (List.map cI.i64 u1w)), [(0, .app 3)])), tI 5 u3l], [bC 7 (GL01Cur.q u5w)], []⟩ ∧ pspec_DrawPlaces_L1 k m u1w u3l u5w = some out1) ?_ k ⟨_, _, _, rfl, h24⟩
    rintro m st ⟨u1w, u3l, u5w, rfl, h24⟩
    cases m with
    | zero => exact (onone h24).elim
    | succ m =>
      apply Wc.seq
      apply Wc.seq
      refine Wc.r0 ⟨[tP 3 7, (4, (.v (.sl (List.map cI.i64 u1w)), [(0, .app 3)])), tI 5 u3l, tB 12 (decide (u3l < 12))], [bC 7 (GL01Cur.q u5w)], []⟩ ?_
      rcases oif h24 with ⟨h25, h24⟩ | ⟨h25, h24⟩
      · refine Wc.cT h25 ?_
        refine Wc.fx [] ⟨[tP 3 7, (4, (.v (.sl (List.map cI.i64 u1w)), [(0, .app 3)])), tI 5 u3l], [bC 7 (GL01Cur.q u5w)], []⟩ ?_
        refine Wc.skip ?_
        apply Wc.seq
        refine Wc.block ?_
        obtain ⟨u1i, h26, h24⟩ := obind h24
        obtain ⟨h27, h24⟩ := oguard h24
        refine Wc.r2 [{ tk := [4] }, {}, { r := some (.v (aI u1i.2) []), outs := [(0, .p (GL01Cur.q u1i.1) [])] }, { c := some (List.map cI.i64 [u1i.2]) }, { c := some (List.map cI.i64 (u1w ++ [u1i.2])), tk := [15] }, { tk := [19] }] ⟨[tP 3 7, (4, (.v (.sl (List.map cI.i64 (u1w ++ [u1i.2]))), [(0, .app 3)])), tI 5 u3l], [bC 7 (GL01Cur.q u1i.1)], []⟩ (.cons (cspec_l01Below h26) (.cons (cl_cons (c := cI.i64) (x := u1i.2) rfl (cl_nil cI.i64)) (.cons (app_re2 cI.i64 u1w [u1i.2]) (.cons (app_leaf (c := cI.i64) (ys := [u1i.2]) cI.i64_leaf) (.cons (app_obl2 (c := cI.i64) (xs := u1w) (ys := [u1i.2]) cI.i64_len h27) .nil))))) ?_
        refine Wc.r0 ⟨[tP 3 7, (4, (.v (.sl (List.map cI.i64 (u1w ++ [u1i.2]))), [(0, .app 3)])), tI 5 (wr.i64 (u3l + 1))], [bC 7 (GL01Cur.q u1i.1)], []⟩ ?_
        exact ⟨_, Nat.lt_succ_self _, _, _, _, rfl, h24⟩
      · refine Wc.cF h25 ?_
        refine Wc.fx [] ⟨[(4, (.v (.sl (List.map cI.i64 u1w)), [(0, .app 3)]))], [], []⟩ ?_
        refine Wc.exit ?_
        obtain rfl := Option.some.inj h24
        exact ⟨_, rfl, rfl⟩
  · rintro st ⟨u76, rfl, rfl⟩
    apply Wc.seq
    refine Wc.r1 [{ tk := [4] }, { tk := [20] }] ⟨[(2, (.v (.sl (List.map cI.i64 u76)), [(0, .app 3)]))], [], []⟩ ?_
    obtain rfl := Option.some.inj h; exact Wc.ret dn

def pimpl_within (k : Nat) (u5y : Int) (u9h : Int) (u77 : Int) : Option Bool :=
  if (decide (u5y ≥ u9h)) = true then
    some (decide (u5y ≤ u77))
  else
    some false
theorem cimpl_within {k : Nat} {u5y : Int} {u9h : Int} {u77 : Int} {r : Bool} (h : pimpl_within k u5y u9h u77 = some r) : FnO Try.prog 59 [.v (aI u5y) [], .v (aI u9h) [], .v (aI u77) []] (.v (.bool r) []) [] := by
  refine FnO.o2 Try.func59 (rfl : Try.f59.body = some _) ?_
  intro w0 X0 Fin pv0 pb gt
  unfold pimpl_within at h
  apply Wc.seq
  refine Wc.r0 ⟨[tI 0 u5y, tI 1 u9h, tI 2 u77], [], []⟩ ?_
  apply Wc.seq
  rcases oif h with ⟨h28, h⟩ | ⟨h28, h⟩
  · refine Wc.r2 [{}, {}, {}, { re := some (.bool true) }] ⟨[tB 6 (decide (u5y ≤ u77))], [], []⟩ (.cons (congrArg AV.bool h28) .nil) ?_
    obtain rfl := Option.some.inj h; exact Wc.ret dn
  · refine Wc.r2 [{}, {}, {}, { re := some (.bool false) }] ⟨[tB 6 false], [], []⟩ (.cons (congrArg AV.bool h28) .nil) ?_
    obtain rfl := Option.some.inj h; exact Wc.ret dn

def pimpl_walked_L1 (k : Nat) (zr : List GTerm) : Nat → Int → GTerm → Option (Out GTerm GTerm)
  | 0, _, _ => none
  | m + 1, u2r, u0d =>
    if (decide (u2r < 5000)) = true then
      if (u0d.gKind == 1) = true then
        (pimpl_within k u0d.gNum 0 (wr.i64 ((zr.length : Int) - 1))).bind fun uch =>
        if uch = true then
          (at' zr u0d.gNum).bind fun u78 =>
          if (u78.gKind != 0) = true then
            (at' zr u0d.gNum).bind fun u5z =>
            pimpl_walked_L1 k zr m (wr.i64 (u2r + 1)) u5z
          else
            some (.done u0d)
        else
          some (.done u0d)
      else
        some (.done u0d)
    else
      some (.done u0d)
def pimpl_walked (k : Nat) (zr : List GTerm) (u79 : GTerm) : Option GTerm :=
  (pimpl_walked_L1 k zr k 0 u79).bind fun out1 => match out1 with
  | .ret r => some r
  | .done u7a =>
    some u7a
theorem cimpl_walked {k : Nat} {zr : List GTerm} {u79 : GTerm} {r : GTerm} (h : pimpl_walked k zr u79 = some r) : FnO Try.prog 79 [.v (.sl (List.map GTerm.c zr)) [], .v (.agg (GTerm.q u79)) []] (.v (.agg (GTerm.q r)) []) [] := by
  refine FnO.o2 Try.func79 (rfl : Try.f79.body = some _) ?_
  intro w0 X0 Fin pv0 pb gt
  unfold pimpl_walked at h
  apply Wc.seq
  refine Wc.r0 ⟨[tV 0 (.sl (List.map GTerm.c zr)), tP 3 3, tP 4 4], [bC 3 (GTerm.q u79), (4, .cells GTerm.z [(3, .app 41)])], []⟩ ?_
  apply Wc.seq
  apply Wc.seq
  refine Wc.r0 ⟨[tV 0 (.sl (List.map GTerm.c zr)), tP 3 3, tP 4 4, tI 5 0], [bC 3 (GTerm.q u79), (4, .cells GTerm.z [(3, .app 41)])], []⟩ ?_
  obtain ⟨out1, h29, h⟩ := obind h
  refine Wc.lastJ (fun st => ∃ (u7a : GTerm), out1 = .done u7a ∧ st = ⟨[tP 3 3, tP 4 4], [bC 3 (GTerm.q u7a), (4, .cells GTerm.z [(3, .app 41)])], []⟩) ?_ ?_
  · refine Wc.block ?_
    refine Wc.loop (fun m st => ∃ (u2r : Int) (u0d : GTerm), st = ⟨[tV 0 (.sl (List.map GTerm.c zr)), tP 3 3, tP 4 4, tI 5 u2r], [bC 3 (GTerm.q u0d), (4, .cells GTerm.z [(3, .app 41)])], []⟩ ∧ pimpl_walked_L1 k zr m u2r u0d = some out1) ?_ k ⟨_, _, rfl, h29⟩
    rintro m st ⟨u2r, u0d, rfl, h29⟩
    cases m with
    | zero => exact (onone h29).elim
    | succ m =>
      apply Wc.seq
      apply Wc.seq
      rcases oif h29 with ⟨h30, h29⟩ | ⟨h30, h29⟩
      · rcases oif h29 with ⟨h31, h29⟩ | ⟨h31, h29⟩
        · obtain ⟨uch, h32, h29⟩ := obind h29
          rcases oif h29 with ⟨h33, h29⟩ | ⟨h33, h29⟩
          · obtain ⟨u78, h34, h29⟩ := obind h29
            refine Wc.r2 [{}, {}, { re := some (.bool true) }, {}, {}, {}, {}, { re := some (.bool true) }, {}, {}, {}, { v := some (aI (zr.length : Int)) }, {}, { r := some (.v (.bool uch) []) }, {}, { re := some (.bool true) }, {}, {}, {}, { v := some (.vptr (GTerm.q u78)) }] ⟨[tV 0 (.sl (List.map GTerm.c zr)), tP 3 3, tP 4 4, tI 5 u2r, tB 29 (u78.gKind != 0)], [bC 3 (GTerm.q u0d), (4, .cells GTerm.z [(3, .app 41)])], []⟩ (.cons (congrArg AV.bool h30) (.cons (congrArg AV.bool h31) (.cons (len_obl GTerm.c zr) (.cons (cimpl_within h32) (.cons (congrArg AV.bool h33) (.cons (at_obl (c := GTerm.c) (GTerm.c_eq u78) GTerm.c_len h34) (.cons (len_ok 1 (GTerm.q u78)) .nil))))))) ?_
            rcases oif h29 with ⟨h35, h29⟩ | ⟨h35, h29⟩
            · refine Wc.cT h35 ?_
              refine Wc.fx [] ⟨[tV 0 (.sl (List.map GTerm.c zr)), tP 3 3, tP 4 4, tI 5 u2r], [bC 3 (GTerm.q u0d), (4, .cells GTerm.z [(3, .app 41)])], []⟩ ?_
              refine Wc.skip ?_
              apply Wc.seq
              refine Wc.block ?_
              obtain ⟨u5z, h36, h29⟩ := obind h29
              refine Wc.r2 [{}, {}, {}, { v := some (.vptr (GTerm.q u5z)) }] ⟨[tV 0 (.sl (List.map GTerm.c zr)), tP 3 3, tP 4 4, tI 5 u2r], [bC 3 (GTerm.q u5z), (4, .cells GTerm.z [(3, .app 41)])], []⟩ (.cons (at_obl (c := GTerm.c) (GTerm.c_eq u5z) GTerm.c_len h36) (.cons (len_ok 4 (GTerm.q u5z)) .nil)) ?_
              refine Wc.r0 ⟨[tV 0 (.sl (List.map GTerm.c zr)), tP 3 3, tP 4 4, tI 5 (wr.i64 (u2r + 1))], [bC 3 (GTerm.q u5z), (4, .cells GTerm.z [(3, .app 41)])], []⟩ ?_
              exact ⟨_, Nat.lt_succ_self _, _, _, rfl, h29⟩
            · refine Wc.cF h35 ?_
              refine Wc.fx [] ⟨[tP 3 3, tP 4 4], [bC 3 (GTerm.q u0d), (4, .cells GTerm.z [(3, .app 41)])], []⟩ ?_
              refine Wc.exit ?_
              obtain rfl := Option.some.inj h29
              exact ⟨_, rfl, rfl⟩
          · refine Wc.r2 [{}, {}, { re := some (.bool true) }, {}, {}, {}, {}, { re := some (.bool true) }, {}, {}, {}, { v := some (aI (zr.length : Int)) }, {}, { r := some (.v (.bool uch) []) }, {}, { re := some (.bool false) }] ⟨[tV 0 (.sl (List.map GTerm.c zr)), tP 3 3, tP 4 4, tI 5 u2r, tB 29 false], [bC 3 (GTerm.q u0d), (4, .cells GTerm.z [(3, .app 41)])], []⟩ (.cons (congrArg AV.bool h30) (.cons (congrArg AV.bool h31) (.cons (len_obl GTerm.c zr) (.cons (cimpl_within h32) (.cons (congrArg AV.bool h33) .nil))))) ?_
            refine Wc.cF rfl ?_
            refine Wc.fx [] ⟨[tP 3 3, tP 4 4], [bC 3 (GTerm.q u0d), (4, .cells GTerm.z [(3, .app 41)])], []⟩ ?_
            refine Wc.exit ?_
            obtain rfl := Option.some.inj h29
            exact ⟨_, rfl, rfl⟩
        · refine Wc.r2 [{}, {}, { re := some (.bool true) }, {}, {}, {}, {}, { re := some (.bool false) }] ⟨[tV 0 (.sl (List.map GTerm.c zr)), tP 3 3, tP 4 4, tI 5 u2r, tB 29 false], [bC 3 (GTerm.q u0d), (4, .cells GTerm.z [(3, .app 41)])], []⟩ (.cons (congrArg AV.bool h30) (.cons (congrArg AV.bool h31) .nil)) ?_
          refine Wc.cF rfl ?_
          refine Wc.fx [] ⟨[tP 3 3, tP 4 4], [bC 3 (GTerm.q u0d), (4, .cells GTerm.z [(3, .app 41)])], []⟩ ?_
          refine Wc.exit ?_
          obtain rfl := Option.some.inj h29
          exact ⟨_, rfl, rfl⟩
      · refine Wc.r2 [{}, {}, { re := some (.bool false) }] ⟨[tV 0 (.sl (List.map GTerm.c zr)), tP 3 3, tP 4 4, tI 5 u2r, tB 29 false], [bC 3 (GTerm.q u0d), (4, .cells GTerm.z [(3, .app 41)])], []⟩ (.cons (congrArg AV.bool h30) .nil) ?_
        refine Wc.cF rfl ?_
        refine Wc.fx [] ⟨[tP 3 3, tP 4 4], [bC 3 (GTerm.q u0d), (4, .cells GTerm.z [(3, .app 41)])], []⟩ ?_
        refine Wc.exit ?_
        obtain rfl := Option.some.inj h29
        exact ⟨_, rfl, rfl⟩
  · rintro st ⟨u7a, rfl, rfl⟩
    apply Wc.seq
    refine Wc.r0 ⟨[tP 4 4], [bC 4 (GTerm.q u7a)], []⟩ ?_
    obtain rfl := Option.some.inj h; exact Wc.ret dn

def pimpl_isStruct (k : Nat) (u3y : GTerm) (u9i : ByteArray) (u7b : Int) : Option Bool :=
  if (u3y.gKind == 4) = true then
    if (sEq u3y.gName u9i) = true then
      some ((u3y.gKids.length : Int) == u7b)
    else
      some false
  else
    some false
theorem cimpl_isStruct {k : Nat} {u3y : GTerm} {u9i : ByteArray} {u7b : Int} {r : Bool} (h : pimpl_isStruct k u3y u9i u7b = some r) : FnO Try.prog 91 [.v (.agg (GTerm.q u3y)) [], .v (.str u9i) [], .v (aI u7b) []] (.v (.bool r) []) [] := by
  refine FnO.o2 Try.func91 (rfl : Try.f91.body = some _) ?_
  intro w0 X0 Fin pv0 pb gt
  unfold pimpl_isStruct at h
  apply Wc.seq
  refine Wc.r0 ⟨[tS 1 u9i, tI 2 u7b, tP 3 3], [bC 3 (GTerm.q u3y)], []⟩ ?_
  apply Wc.seq
  rcases oif h with ⟨h37, h⟩ | ⟨h37, h⟩
  · rcases oif h with ⟨h38, h⟩ | ⟨h38, h⟩
    · refine Wc.r2 [{}, {}, {}, { re := some (.bool true) }, {}, {}, {}, {}, {}, { re := some (.bool true) }, {}, {}, { v := some (aI (u3y.gKids.length : Int)) }] ⟨[tB 6 ((u3y.gKids.length : Int) == u7b)], [], []⟩ (.cons (congrArg AV.bool h37) (.cons (congrArg AV.bool h38) (.cons (len_obl GTerm.c u3y.gKids) .nil))) ?_
      obtain rfl := Option.some.inj h; exact Wc.ret dn
    · refine Wc.r2 [{}, {}, {}, { re := some (.bool true) }, {}, {}, {}, {}, {}, { re := some (.bool false) }] ⟨[tB 6 false], [], []⟩ (.cons (congrArg AV.bool h37) (.cons (congrArg AV.bool h38) .nil)) ?_
      obtain rfl := Option.some.inj h; exact Wc.ret dn
  · refine Wc.r2 [{}, {}, {}, { re := some (.bool false) }] ⟨[tB 6 false], [], []⟩ (.cons (congrArg AV.bool h37) .nil) ?_
    obtain rfl := Option.some.inj h; exact Wc.ret dn

def pimpl_eval_J4 (k : Nat) (rimpl_eval : (List GTerm) → GTerm → Int → Option (Int × Int)) (u4h : Int) : Option (Int × Int) :=
  (pimpl_within k u4h (-999999999) 999999999).bind fun uci =>
  if (!uci) = true then
    some (0, 3)
  else
    some (u4h, 0)
def pimpl_eval_J3 (k : Nat) (rimpl_eval : (List GTerm) → GTerm → Int → Option (Int × Int)) (vh : Bool) (v1 : Int × Int) (u8 : GTerm) (u0e : Int) : Option (Int × Int) :=
  if (!vh) = true then
    pimpl_eval_J4 k rimpl_eval (wr.i64 (0 - v1.1))
  else
    if (sEq u8.gName (bs [43])) = true then
      pimpl_eval_J4 k rimpl_eval (wr.i64 (v1.1 + u0e))
    else
      if (sEq u8.gName (bs [45])) = true then
        pimpl_eval_J4 k rimpl_eval (wr.i64 (v1.1 - u0e))
      else
        if (sEq u8.gName (bs [42])) = true then
          pimpl_eval_J4 k rimpl_eval (wr.i64 (v1.1 * u0e))
        else
          if (u0e == 0) = true then
            some (0, 4)
          else
            if (u0e : Int) ≠ 0 then
              pimpl_eval_J4 k rimpl_eval (wr.i64 (Int.tdiv v1.1 u0e))
            else none
def pimpl_eval_J2 (k : Nat) (rimpl_eval : (List GTerm) → GTerm → Int → Option (Int × Int)) (u8 : GTerm) (uy : List GTerm) (uu : Int) (vh : Bool) : Option (Int × Int) :=
  (at' u8.gKids 0).bind fun u9j =>
  (rimpl_eval uy u9j (wr.i64 (uu + 1))).bind fun v1 =>
  if (v1.2 != 0) = true then
    some (0, v1.2)
  else
    if vh = true then
      (at' u8.gKids 1).bind fun u9k =>
      (rimpl_eval uy u9k (wr.i64 (uu + 1))).bind fun u2s =>
      if (u2s.2 != 0) = true then
        some (0, u2s.2)
      else
        pimpl_eval_J3 k rimpl_eval vh v1 u8 u2s.1
    else
      pimpl_eval_J3 k rimpl_eval vh v1 u8 0
def pimpl_eval_J1 (k : Nat) (rimpl_eval : (List GTerm) → GTerm → Int → Option (Int × Int)) (u8 : GTerm) (uy : List GTerm) (uu : Int) (vh : Bool) : Option (Int × Int) :=
  if (!vh) = true then
    (pimpl_isStruct k u8 (bs [45]) 1).bind fun ucj =>
    if (!ucj) = true then
      some (0, 2)
    else
      pimpl_eval_J2 k rimpl_eval u8 uy uu vh
  else
    pimpl_eval_J2 k rimpl_eval u8 uy uu vh
mutual
def pimpl_eval : Nat → (List GTerm) → GTerm → Int → Option (Int × Int)
  | 0, _, _, _ => none
  | k + 1, uy, u3z, uu =>
    (pimpl_walked k uy u3z).bind fun u8 =>
    if (u8.gKind == 1) = true then
      some (0, 1)
    else
      if (u8.gKind == 3) = true then
        (pimpl_within k u8.gNum (-999999999) 999999999).bind fun uck =>
        if (!uck) = true then
          some (0, 3)
        else
          some (u8.gNum, 0)
      else
        if (u8.gKind != 4) = true then
          some (0, 2)
        else
          if (decide (uu > 40)) = true then
            some (0, 2)
          else
            if ((u8.gKids.length : Int) == 2) = true then
              if (sEq u8.gName (bs [43])) = true then
                pimpl_eval_J1 k (pimpl_eval k) u8 uy uu true
              else
                if (sEq u8.gName (bs [45])) = true then
                  pimpl_eval_J1 k (pimpl_eval k) u8 uy uu true
                else
                  if (sEq u8.gName (bs [42])) = true then
                    pimpl_eval_J1 k (pimpl_eval k) u8 uy uu true
                  else
                    pimpl_eval_J1 k (pimpl_eval k) u8 uy uu (sEq u8.gName (bs [47, 47]))
            else
              pimpl_eval_J1 k (pimpl_eval k) u8 uy uu false
end
set_option maxHeartbeats 4000000 in
theorem all_pimpl_eval : ∀ k : Nat, (∀ {uy : List GTerm} {u3z : GTerm} {uu : Int} {r : Int × Int}, pimpl_eval k uy u3z uu = some r → FnO Try.prog 53 [.v (.sl (List.map GTerm.c uy)) [], .v (.agg (GTerm.q u3z)) [], .v (aI uu) []] (.v (.tup [aI r.1, aI r.2]) []) []) := by
  intro k
  induction k with
  | zero =>
    · intro uy u3z uu r h
      exact (onone (by rw [pimpl_eval] at h; exact h)).elim
  | succ k ih =>
    have ih_pimpl_eval := @ih
    · intro uy u3z uu r h
      rw [pimpl_eval] at h
      refine FnO.o2 Try.func53 (rfl : Try.f53.body = some _) ?_
      intro w0 X0 Fin pv0 pb gt
      apply Wc.seq
      refine Wc.r0 ⟨[tV 0 (.sl (List.map GTerm.c uy)), tI 2 uu, tP 4 4], [bC 4 (GTerm.q u3z)], []⟩ ?_
      apply Wc.seq
      obtain ⟨u8, h39, h⟩ := obind h
      refine Wc.r2 [{}, {}, { r := some (.v (.agg (GTerm.q u8)) []) }] ⟨[tV 0 (.sl (List.map GTerm.c uy)), tI 2 uu, tP 4 4], [bC 4 (GTerm.q u8)], []⟩ (.cons (cimpl_walked h39) .nil) ?_
      apply Wc.seq
      refine Wc.block ?_
      apply Wc.seq
      refine Wc.r0 ⟨[tV 0 (.sl (List.map GTerm.c uy)), tI 2 uu, tP 4 4, tB 16 (u8.gKind == 1)], [bC 4 (GTerm.q u8)], []⟩ ?_
      rcases oif h with ⟨h40, h⟩ | ⟨h40, h⟩
      · refine Wc.cT h40 ?_
        apply Wc.seq
        refine Wc.r0 ⟨[tI 6 0, tI 7 1], [], []⟩ ?_
        obtain rfl := Option.some.inj h; exact Wc.ret dn
      · refine Wc.cF h40 ?_
        apply Wc.seq
        refine Wc.r0 ⟨[tV 0 (.sl (List.map GTerm.c uy)), tI 2 uu, tP 4 4, tB 20 (u8.gKind == 3)], [bC 4 (GTerm.q u8)], []⟩ ?_
        rcases oif h with ⟨h41, h⟩ | ⟨h41, h⟩
        · refine Wc.cT h41 ?_
          apply Wc.seq
          apply Wc.seq
          obtain ⟨uck, h42, h⟩ := obind h
          refine Wc.r2 [{}, {}, { r := some (.v (.bool uck) []) }] ⟨[tP 4 4, tB 27 (!uck)], [bC 4 (GTerm.q u8)], []⟩ (.cons (cimpl_within h42) .nil) ?_
          rcases oif h with ⟨h43, h⟩ | ⟨h43, h⟩
          · refine Wc.cT h43 ?_
            apply Wc.seq
            refine Wc.r0 ⟨[tI 6 0, tI 7 3], [], []⟩ ?_
            obtain rfl := Option.some.inj h; exact Wc.ret dn
          · refine Wc.cF h43 ?_
            refine Wc.fx [] ⟨[tP 4 4], [bC 4 (GTerm.q u8)], []⟩ ?_
            refine Wc.skip ?_
            apply Wc.seq
            refine Wc.r0 ⟨[tI 6 u8.gNum, tI 7 0], [], []⟩ ?_
            obtain rfl := Option.some.inj h; exact Wc.ret dn
        · refine Wc.cF h41 ?_
          apply Wc.seq
          rcases oif h with ⟨h44, h⟩ | ⟨h44, h⟩
          · refine Wc.r2 [{}, {}, {}, { re := some (.bool true) }] ⟨[tV 0 (.sl (List.map GTerm.c uy)), tI 2 uu, tP 4 4, tB 30 true], [bC 4 (GTerm.q u8)], []⟩ (.cons (congrArg AV.bool h44) .nil) ?_
            refine Wc.cT rfl ?_
            apply Wc.seq
            refine Wc.r0 ⟨[tI 6 0, tI 7 2], [], []⟩ ?_
            obtain rfl := Option.some.inj h; exact Wc.ret dn
          · refine Wc.r2 [{}, {}, {}, { re := some (.bool false) }] ⟨[tV 0 (.sl (List.map GTerm.c uy)), tI 2 uu, tP 4 4, tB 30 (decide (uu > 40))], [bC 4 (GTerm.q u8)], []⟩ (.cons (congrArg AV.bool h44) .nil) ?_
            rcases oif h with ⟨h45, h⟩ | ⟨h45, h⟩
            · refine Wc.cT h45 ?_
              apply Wc.seq
              refine Wc.r0 ⟨[tI 6 0, tI 7 2], [], []⟩ ?_
              obtain rfl := Option.some.inj h; exact Wc.ret dn
            · refine Wc.cF h45 ?_
              refine Wc.fx [] ⟨[tV 0 (.sl (List.map GTerm.c uy)), tI 2 uu, tP 4 4], [bC 4 (GTerm.q u8)], []⟩ ?_
              refine Wc.skip ?_
              refine Wc.seqJ (fun st => ∃ (vh : Bool), st = ⟨[tV 0 (.sl (List.map GTerm.c uy)), tI 2 uu, tP 4 4, tB 8 vh], [bC 4 (GTerm.q u8)], []⟩ ∧ pimpl_eval_J1 k (pimpl_eval k) u8 uy uu vh = some r) ?_ ?_
              · rcases oif h with ⟨h64, h⟩ | ⟨h64, h⟩
                · rcases oif h with ⟨h65, h⟩ | ⟨h65, h⟩
                  · refine Wc.r2 [{}, {}, { v := some (aI (u8.gKids.length : Int)) }, {}, { re := some (.bool true) }, {}, {}, {}, { re := some (.bool true) }] ⟨[tV 0 (.sl (List.map GTerm.c uy)), tI 2 uu, tP 4 4, tB 8 true], [bC 4 (GTerm.q u8)], []⟩ (.cons (len_obl GTerm.c u8.gKids) (.cons (congrArg AV.bool h64) (.cons (congrArg AV.bool h65) .nil))) ?_
                    exact ⟨_, rfl, h⟩
                  · rcases oif h with ⟨h66, h⟩ | ⟨h66, h⟩
                    · refine Wc.r2 [{}, {}, { v := some (aI (u8.gKids.length : Int)) }, {}, { re := some (.bool true) }, {}, {}, {}, { re := some (.bool false) }, {}, {}, {}, {}, { re := some (.bool true) }] ⟨[tV 0 (.sl (List.map GTerm.c uy)), tI 2 uu, tP 4 4, tB 8 true], [bC 4 (GTerm.q u8)], []⟩ (.cons (len_obl GTerm.c u8.gKids) (.cons (congrArg AV.bool h64) (.cons (congrArg AV.bool h65) (.cons (congrArg AV.bool h66) .nil)))) ?_
                      exact ⟨_, rfl, h⟩
                    · rcases oif h with ⟨h67, h⟩ | ⟨h67, h⟩
                      · refine Wc.r2 [{}, {}, { v := some (aI (u8.gKids.length : Int)) }, {}, { re := some (.bool true) }, {}, {}, {}, { re := some (.bool false) }, {}, {}, {}, {}, { re := some (.bool false) }, {}, {}, {}, {}, { re := some (.bool true) }] ⟨[tV 0 (.sl (List.map GTerm.c uy)), tI 2 uu, tP 4 4, tB 8 true], [bC 4 (GTerm.q u8)], []⟩ (.cons (len_obl GTerm.c u8.gKids) (.cons (congrArg AV.bool h64) (.cons (congrArg AV.bool h65) (.cons (congrArg AV.bool h66) (.cons (congrArg AV.bool h67) .nil))))) ?_
                        exact ⟨_, rfl, h⟩
                      · refine Wc.r2 [{}, {}, { v := some (aI (u8.gKids.length : Int)) }, {}, { re := some (.bool true) }, {}, {}, {}, { re := some (.bool false) }, {}, {}, {}, {}, { re := some (.bool false) }, {}, {}, {}, {}, { re := some (.bool false) }] ⟨[tV 0 (.sl (List.map GTerm.c uy)), tI 2 uu, tP 4 4, tB 8 (sEq u8.gName (bs [47, 47]))], [bC 4 (GTerm.q u8)], []⟩ (.cons (len_obl GTerm.c u8.gKids) (.cons (congrArg AV.bool h64) (.cons (congrArg AV.bool h65) (.cons (congrArg AV.bool h66) (.cons (congrArg AV.bool h67) .nil))))) ?_
                        exact ⟨_, rfl, h⟩
                · refine Wc.r2 [{}, {}, { v := some (aI (u8.gKids.length : Int)) }, {}, { re := some (.bool false) }] ⟨[tV 0 (.sl (List.map GTerm.c uy)), tI 2 uu, tP 4 4, tB 8 false], [bC 4 (GTerm.q u8)], []⟩ (.cons (len_obl GTerm.c u8.gKids) (.cons (congrArg AV.bool h64) .nil)) ?_
                  exact ⟨_, rfl, h⟩
              · rintro st ⟨vh, rfl, h⟩
                refine Wc.seqJ (fun st => st = ⟨[tV 0 (.sl (List.map GTerm.c uy)), tI 2 uu, tP 4 4, tB 8 vh], [bC 4 (GTerm.q u8)], []⟩ ∧ pimpl_eval_J2 k (pimpl_eval k) u8 uy uu vh = some r) ?_ ?_
                · apply Wc.seq
                  rcases oif h with ⟨h61, h⟩ | ⟨h61, h⟩
                  · obtain ⟨ucj, h62, h⟩ := obind h
                    refine Wc.r2 [{}, {}, { re := some (.bool true) }, {}, { r := some (.v (.bool ucj) []) }] ⟨[tV 0 (.sl (List.map GTerm.c uy)), tI 2 uu, tP 4 4, tB 8 vh, tB 68 (!ucj)], [bC 4 (GTerm.q u8)], []⟩ (.cons (congrArg AV.bool h61) (.cons (cimpl_isStruct h62) .nil)) ?_
                    rcases oif h with ⟨h63, h⟩ | ⟨h63, h⟩
                    · refine Wc.cT h63 ?_
                      apply Wc.seq
                      refine Wc.r0 ⟨[tI 6 0, tI 7 2], [], []⟩ ?_
                      obtain rfl := Option.some.inj h; exact Wc.ret dn
                    · refine Wc.cF h63 ?_
                      refine Wc.fx [] ⟨[tV 0 (.sl (List.map GTerm.c uy)), tI 2 uu, tP 4 4, tB 8 vh], [bC 4 (GTerm.q u8)], []⟩ ?_
                      refine Wc.skip ?_
                      exact ⟨rfl, h⟩
                  · refine Wc.r2 [{}, {}, { re := some (.bool false) }] ⟨[tV 0 (.sl (List.map GTerm.c uy)), tI 2 uu, tP 4 4, tB 8 vh, tB 68 false], [bC 4 (GTerm.q u8)], []⟩ (.cons (congrArg AV.bool h61) .nil) ?_
                    refine Wc.cF rfl ?_
                    refine Wc.fx [] ⟨[tV 0 (.sl (List.map GTerm.c uy)), tI 2 uu, tP 4 4, tB 8 vh], [bC 4 (GTerm.q u8)], []⟩ ?_
                    refine Wc.skip ?_
                    exact ⟨rfl, h⟩
                · rintro st ⟨rfl, h⟩
                  apply Wc.seq
                  obtain ⟨u9j, h46, h⟩ := obind h
                  obtain ⟨v1, h47, h⟩ := obind h
                  refine Wc.r2 [{}, {}, {}, { v := some (.vptr (GTerm.q u9j)) }, {}, {}, {}, { r := some (.v (.tup [aI v1.1, aI v1.2]) []) }] ⟨[tV 0 (.sl (List.map GTerm.c uy)), tI 2 uu, tP 4 4, tB 8 vh, tI 9 v1.1, tI 10 v1.2], [bC 4 (GTerm.q u8)], []⟩ (.cons (at_obl (c := GTerm.c) (GTerm.c_eq u9j) GTerm.c_len h46) (.cons (len_ok 4 (GTerm.q u9j)) (.cons (ih_pimpl_eval h47) .nil))) ?_
                  apply Wc.seq
                  apply Wc.seq
                  refine Wc.r0 ⟨[tV 0 (.sl (List.map GTerm.c uy)), tI 2 uu, tP 4 4, tB 8 vh, tI 9 v1.1, tI 10 v1.2, tB 81 (v1.2 != 0)], [bC 4 (GTerm.q u8)], []⟩ ?_
                  rcases oif h with ⟨h48, h⟩ | ⟨h48, h⟩
                  · refine Wc.cT h48 ?_
                    apply Wc.seq
                    refine Wc.r0 ⟨[tI 6 0, tI 7 v1.2], [], []⟩ ?_
                    obtain rfl := Option.some.inj h; exact Wc.ret dn
                  · refine Wc.cF h48 ?_
                    refine Wc.fx [] ⟨[tV 0 (.sl (List.map GTerm.c uy)), tI 2 uu, tP 4 4, tB 8 vh, tI 9 v1.1], [bC 4 (GTerm.q u8)], []⟩ ?_
                    refine Wc.skip ?_
                    apply Wc.seq
                    refine Wc.r0 ⟨[tV 0 (.sl (List.map GTerm.c uy)), tI 2 uu, tP 4 4, tB 8 vh, tI 9 v1.1, tI 11 0], [bC 4 (GTerm.q u8)], []⟩ ?_
                    refine Wc.seqJ (fun st => ∃ (u0e : Int), st = ⟨[tP 4 4, tB 8 vh, tI 9 v1.1, tI 11 u0e], [bC 4 (GTerm.q u8)], []⟩ ∧ pimpl_eval_J3 k (pimpl_eval k) vh v1 u8 u0e = some r) ?_ ?_
                    · apply Wc.seq
                      refine Wc.r0 ⟨[tV 0 (.sl (List.map GTerm.c uy)), tI 2 uu, tP 4 4, tB 8 vh, tI 9 v1.1, tI 11 0, tB 83 vh], [bC 4 (GTerm.q u8)], []⟩ ?_
                      rcases oif h with ⟨h57, h⟩ | ⟨h57, h⟩
                      · refine Wc.cT h57 ?_
                        apply Wc.seq
                        obtain ⟨u9k, h58, h⟩ := obind h
                        obtain ⟨u2s, h59, h⟩ := obind h
                        refine Wc.r2 [{}, {}, {}, { v := some (.vptr (GTerm.q u9k)) }, {}, {}, {}, { r := some (.v (.tup [aI u2s.1, aI u2s.2]) []) }] ⟨[tP 4 4, tB 8 vh, tI 9 v1.1, tI 10 u2s.2, tI 11 u2s.1], [bC 4 (GTerm.q u8)], []⟩ (.cons (at_obl (c := GTerm.c) (GTerm.c_eq u9k) GTerm.c_len h58) (.cons (len_ok 4 (GTerm.q u9k)) (.cons (ih_pimpl_eval h59) .nil))) ?_
                        apply Wc.seq
                        refine Wc.r0 ⟨[tP 4 4, tB 8 vh, tI 9 v1.1, tI 10 u2s.2, tI 11 u2s.1, tB 96 (u2s.2 != 0)], [bC 4 (GTerm.q u8)], []⟩ ?_
                        rcases oif h with ⟨h60, h⟩ | ⟨h60, h⟩
                        · refine Wc.cT h60 ?_
                          apply Wc.seq
                          refine Wc.r0 ⟨[tI 6 0, tI 7 u2s.2], [], []⟩ ?_
                          obtain rfl := Option.some.inj h; exact Wc.ret dn
                        · refine Wc.cF h60 ?_
                          refine Wc.fx [] ⟨[tP 4 4, tB 8 vh, tI 9 v1.1, tI 11 u2s.1], [bC 4 (GTerm.q u8)], []⟩ ?_
                          refine Wc.skip ?_
                          exact ⟨_, rfl, h⟩
                      · refine Wc.cF h57 ?_
                        refine Wc.fx [] ⟨[tP 4 4, tB 8 vh, tI 9 v1.1, tI 11 0], [bC 4 (GTerm.q u8)], []⟩ ?_
                        refine Wc.skip ?_
                        exact ⟨_, rfl, h⟩
                    · rintro st ⟨u0e, rfl, h⟩
                      apply Wc.seq
                      refine Wc.r0 ⟨[tP 4 4, tB 8 vh, tI 9 v1.1, tI 11 u0e, tI 12 (wr.i64 (0 - v1.1))], [bC 4 (GTerm.q u8)], []⟩ ?_
                      refine Wc.seqJ (fun st => ∃ (u4h : Int), st = ⟨[tI 12 u4h], [], []⟩ ∧ pimpl_eval_J4 k (pimpl_eval k) u4h = some r) ?_ ?_
                      · refine Wc.block ?_
                        apply Wc.seq
                        refine Wc.r0 ⟨[tP 4 4, tI 9 v1.1, tI 11 u0e, tI 12 (wr.i64 (0 - v1.1)), tB 103 (!vh)], [bC 4 (GTerm.q u8)], []⟩ ?_
                        rcases oif h with ⟨h51, h⟩ | ⟨h51, h⟩
                        · refine Wc.cT h51 ?_
                          refine Wc.fx [] ⟨[tI 12 (wr.i64 (0 - v1.1))], [], []⟩ ?_
                          refine Wc.skip ?_
                          exact ⟨_, rfl, h⟩
                        · refine Wc.cF h51 ?_
                          apply Wc.seq
                          refine Wc.r0 ⟨[tP 4 4, tI 9 v1.1, tI 11 u0e, tB 106 (sEq u8.gName (bs [43]))], [bC 4 (GTerm.q u8)], []⟩ ?_
                          rcases oif h with ⟨h52, h⟩ | ⟨h52, h⟩
                          · refine Wc.cT h52 ?_
                            refine Wc.r0 ⟨[tI 12 (wr.i64 (v1.1 + u0e))], [], []⟩ ?_
                            exact ⟨_, rfl, h⟩
                          · refine Wc.cF h52 ?_
                            apply Wc.seq
                            refine Wc.r0 ⟨[tP 4 4, tI 9 v1.1, tI 11 u0e, tB 113 (sEq u8.gName (bs [45]))], [bC 4 (GTerm.q u8)], []⟩ ?_
                            rcases oif h with ⟨h53, h⟩ | ⟨h53, h⟩
                            · refine Wc.cT h53 ?_
                              refine Wc.r0 ⟨[tI 12 (wr.i64 (v1.1 - u0e))], [], []⟩ ?_
                              exact ⟨_, rfl, h⟩
                            · refine Wc.cF h53 ?_
                              apply Wc.seq
                              refine Wc.r0 ⟨[tI 9 v1.1, tI 11 u0e, tB 120 (sEq u8.gName (bs [42]))], [], []⟩ ?_
                              rcases oif h with ⟨h54, h⟩ | ⟨h54, h⟩
                              · refine Wc.cT h54 ?_
                                refine Wc.r0 ⟨[tI 12 (wr.i64 (v1.1 * u0e))], [], []⟩ ?_
                                exact ⟨_, rfl, h⟩
                              · refine Wc.cF h54 ?_
                                apply Wc.seq
                                refine Wc.r0 ⟨[tI 9 v1.1, tI 11 u0e, tB 127 (u0e == 0)], [], []⟩ ?_
                                rcases oif h with ⟨h55, h⟩ | ⟨h55, h⟩
                                · refine Wc.cT h55 ?_
                                  apply Wc.seq
                                  refine Wc.r0 ⟨[tI 6 0, tI 7 4], [], []⟩ ?_
                                  obtain rfl := Option.some.inj h; exact Wc.ret dn
                                · refine Wc.cF h55 ?_
                                  obtain ⟨h56, h⟩ := oguard h
                                  refine Wc.r2 [] ⟨[tI 12 (wr.i64 (Int.tdiv v1.1 u0e))], [], []⟩ (.cons h56 .nil) ?_
                                  exact ⟨_, rfl, h⟩
                      · rintro st ⟨u4h, rfl, h⟩
                        apply Wc.seq
                        apply Wc.seq
                        obtain ⟨uci, h49, h⟩ := obind h
                        refine Wc.r2 [{}, { r := some (.v (.bool uci) []) }] ⟨[tI 12 u4h, tB 132 (!uci)], [], []⟩ (.cons (cimpl_within h49) .nil) ?_
                        rcases oif h with ⟨h50, h⟩ | ⟨h50, h⟩
                        · refine Wc.cT h50 ?_
                          apply Wc.seq
                          refine Wc.r0 ⟨[tI 6 0, tI 7 3], [], []⟩ ?_
                          obtain rfl := Option.some.inj h; exact Wc.ret dn
                        · refine Wc.cF h50 ?_
                          refine Wc.fx [] ⟨[tI 12 u4h], [], []⟩ ?_
                          refine Wc.skip ?_
                          apply Wc.seq
                          refine Wc.r0 ⟨[tI 6 u4h, tI 7 0], [], []⟩ ?_
                          obtain rfl := Option.some.inj h; exact Wc.ret dn
theorem cimpl_eval {k : Nat} {uy : List GTerm} {u3z : GTerm} {uu : Int} {r : Int × Int} (h : pimpl_eval k uy u3z uu = some r) : FnO Try.prog 53 [.v (.sl (List.map GTerm.c uy)) [], .v (.agg (GTerm.q u3z)) [], .v (aI uu) []] (.v (.tup [aI r.1, aI r.2]) []) [] := (all_pimpl_eval k) h

def pimpl_Eval (k : Nat) (u9l : GBinds) (u9m : GTerm) : Option (Int × Int) :=
  (pimpl_eval k u9l.gList u9m 1).bind fun u60 =>
  some (u60.1, u60.2)
theorem cimpl_Eval {k : Nat} {u9l : GBinds} {u9m : GTerm} {r : Int × Int} (h : pimpl_Eval k u9l u9m = some r) : FnO Try.prog 15 [.v (.agg [.sl (List.map GTerm.c u9l.gList)]) [], .v (.agg (GTerm.q u9m)) []] (.v (.tup [aI r.1, aI r.2]) []) [] := by
  refine FnO.o2 Try.func15 (rfl : Try.f15.body = some _) ?_
  intro w0 X0 Fin pv0 pb gt
  unfold pimpl_Eval at h
  apply Wc.seq
  refine Wc.r0 ⟨[tP 2 2, tP 3 3], [bC 2 [.sl (List.map GTerm.c u9l.gList)], bC 3 (GTerm.q u9m)], []⟩ ?_
  apply Wc.seq
  obtain ⟨u60, h68, h⟩ := obind h
  refine Wc.r2 [{}, {}, {}, { r := some (.v (.tup [aI u60.1, aI u60.2]) []) }] ⟨[tI 4 u60.1, tI 5 u60.2], [], []⟩ (.cons (cimpl_eval h68) .nil) ?_
  obtain rfl := Option.some.inj h; exact Wc.ret dn

def pspec_l05Blank (k : Nat) (u5a : Int) : Option Bool :=
  if (u5a == 32) = true then
    some true
  else
    if (u5a == 9) = true then
      some true
    else
      some (u5a == 10)
theorem cspec_l05Blank {k : Nat} {u5a : Int} {r : Bool} (h : pspec_l05Blank k u5a = some r) : FnO Try.prog 119 [.v (.int .u8 u5a) []] (.v (.bool r) []) [] := by
  refine FnO.o2 Try.func119 (rfl : Try.f119.body = some _) ?_
  intro w0 X0 Fin pv0 pb gt
  unfold pspec_l05Blank at h
  apply Wc.seq
  refine Wc.r0 ⟨[tV 0 (.int .u8 u5a)], [], []⟩ ?_
  apply Wc.seq
  rcases oif h with ⟨h69, h⟩ | ⟨h69, h⟩
  · refine Wc.r2 [{}, {}, { re := some (.bool true) }] ⟨[tB 2 true], [], []⟩ (.cons (congrArg AV.bool h69) .nil) ?_
    obtain rfl := Option.some.inj h; exact Wc.ret dn
  · rcases oif h with ⟨h70, h⟩ | ⟨h70, h⟩
    · refine Wc.r2 [{}, {}, { re := some (.bool false) }, {}, {}, {}, { re := some (.bool true) }] ⟨[tB 2 true], [], []⟩ (.cons (congrArg AV.bool h69) (.cons (congrArg AV.bool h70) .nil)) ?_
      obtain rfl := Option.some.inj h; exact Wc.ret dn
    · refine Wc.r2 [{}, {}, { re := some (.bool false) }, {}, {}, {}, { re := some (.bool false) }] ⟨[tB 2 (u5a == 10)], [], []⟩ (.cons (congrArg AV.bool h69) (.cons (congrArg AV.bool h70) .nil)) ?_
      obtain rfl := Option.some.inj h; exact Wc.ret dn

def pspec_l05Small (k : Nat) (u61 : Int) : Option Bool :=
  if (decide (u61 ≥ 97)) = true then
    some (decide (u61 ≤ 122))
  else
    some false
theorem cspec_l05Small {k : Nat} {u61 : Int} {r : Bool} (h : pspec_l05Small k u61 = some r) : FnO Try.prog 134 [.v (.int .u8 u61) []] (.v (.bool r) []) [] := by
  refine FnO.o2 Try.func134 (rfl : Try.f134.body = some _) ?_
  intro w0 X0 Fin pv0 pb gt
  unfold pspec_l05Small at h
  apply Wc.seq
  refine Wc.r0 ⟨[tV 0 (.int .u8 u61)], [], []⟩ ?_
  apply Wc.seq
  rcases oif h with ⟨h71, h⟩ | ⟨h71, h⟩
  · refine Wc.r2 [{}, {}, { re := some (.bool true) }] ⟨[tB 2 (decide (u61 ≤ 122))], [], []⟩ (.cons (congrArg AV.bool h71) .nil) ?_
    obtain rfl := Option.some.inj h; exact Wc.ret dn
  · refine Wc.r2 [{}, {}, { re := some (.bool false) }] ⟨[tB 2 false], [], []⟩ (.cons (congrArg AV.bool h71) .nil) ?_
    obtain rfl := Option.some.inj h; exact Wc.ret dn

def pspec_l05Great (k : Nat) (u40 : Int) : Option Bool :=
  if (decide (u40 ≥ 65)) = true then
    if (decide (u40 ≤ 90)) = true then
      some true
    else
      some (u40 == 95)
  else
    some (u40 == 95)
theorem cspec_l05Great {k : Nat} {u40 : Int} {r : Bool} (h : pspec_l05Great k u40 = some r) : FnO Try.prog 135 [.v (.int .u8 u40) []] (.v (.bool r) []) [] := by
  refine FnO.o2 Try.func135 (rfl : Try.f135.body = some _) ?_
  intro w0 X0 Fin pv0 pb gt
  unfold pspec_l05Great at h
  apply Wc.seq
  refine Wc.r0 ⟨[tV 0 (.int .u8 u40)], [], []⟩ ?_
  apply Wc.seq
  rcases oif h with ⟨h72, h⟩ | ⟨h72, h⟩
  · rcases oif h with ⟨h73, h⟩ | ⟨h73, h⟩
    · refine Wc.r2 [{}, {}, { re := some (.bool true) }, {}, {}, {}, { re := some (.bool true) }] ⟨[tB 2 true], [], []⟩ (.cons (congrArg AV.bool h72) (.cons (congrArg AV.bool h73) .nil)) ?_
      obtain rfl := Option.some.inj h; exact Wc.ret dn
    · refine Wc.r2 [{}, {}, { re := some (.bool true) }, {}, {}, {}, { re := some (.bool false) }] ⟨[tB 2 (u40 == 95)], [], []⟩ (.cons (congrArg AV.bool h72) (.cons (congrArg AV.bool h73) .nil)) ?_
      obtain rfl := Option.some.inj h; exact Wc.ret dn
  · refine Wc.r2 [{}, {}, { re := some (.bool false) }] ⟨[tB 2 (u40 == 95)], [], []⟩ (.cons (congrArg AV.bool h72) .nil) ?_
    obtain rfl := Option.some.inj h; exact Wc.ret dn

def pspec_l05Figure (k : Nat) (u62 : Int) : Option Bool :=
  if (decide (u62 ≥ 48)) = true then
    some (decide (u62 ≤ 57))
  else
    some false
theorem cspec_l05Figure {k : Nat} {u62 : Int} {r : Bool} (h : pspec_l05Figure k u62 = some r) : FnO Try.prog 137 [.v (.int .u8 u62) []] (.v (.bool r) []) [] := by
  refine FnO.o2 Try.func137 (rfl : Try.f137.body = some _) ?_
  intro w0 X0 Fin pv0 pb gt
  unfold pspec_l05Figure at h
  apply Wc.seq
  refine Wc.r0 ⟨[tV 0 (.int .u8 u62)], [], []⟩ ?_
  apply Wc.seq
  rcases oif h with ⟨h74, h⟩ | ⟨h74, h⟩
  · refine Wc.r2 [{}, {}, { re := some (.bool true) }] ⟨[tB 2 (decide (u62 ≤ 57))], [], []⟩ (.cons (congrArg AV.bool h74) .nil) ?_
    obtain rfl := Option.some.inj h; exact Wc.ret dn
  · refine Wc.r2 [{}, {}, { re := some (.bool false) }] ⟨[tB 2 false], [], []⟩ (.cons (congrArg AV.bool h74) .nil) ?_
    obtain rfl := Option.some.inj h; exact Wc.ret dn

def pspec_l05Word (k : Nat) (u63 : Int) : Option Bool :=
  (pspec_l05Small k u63).bind fun u9n =>
  if u9n = true then
    some true
  else
    (pspec_l05Great k u63).bind fun ucl =>
    if ucl = true then
      some true
    else
      (pspec_l05Figure k u63).bind fun ucm =>
      some ucm
theorem cspec_l05Word {k : Nat} {u63 : Int} {r : Bool} (h : pspec_l05Word k u63 = some r) : FnO Try.prog 147 [.v (.int .u8 u63) []] (.v (.bool r) []) [] := by
  refine FnO.o2 Try.func147 (rfl : Try.f147.body = some _) ?_
  intro w0 X0 Fin pv0 pb gt
  unfold pspec_l05Word at h
  apply Wc.seq
  refine Wc.r0 ⟨[tV 0 (.int .u8 u63)], [], []⟩ ?_
  apply Wc.seq
  obtain ⟨u9n, h75, h⟩ := obind h
  rcases oif h with ⟨h76, h⟩ | ⟨h76, h⟩
  · refine Wc.r2 [{}, { r := some (.v (.bool u9n) []) }, { re := some (.bool true) }] ⟨[tB 2 true], [], []⟩ (.cons (cspec_l05Small h75) (.cons (congrArg AV.bool h76) .nil)) ?_
    obtain rfl := Option.some.inj h; exact Wc.ret dn
  · obtain ⟨ucl, h77, h⟩ := obind h
    rcases oif h with ⟨h78, h⟩ | ⟨h78, h⟩
    · refine Wc.r2 [{}, { r := some (.v (.bool u9n) []) }, { re := some (.bool false) }, {}, { r := some (.v (.bool ucl) []) }, {}, { re := some (.bool true) }] ⟨[tB 2 true], [], []⟩ (.cons (cspec_l05Small h75) (.cons (congrArg AV.bool h76) (.cons (cspec_l05Great h77) (.cons (congrArg AV.bool h78) .nil)))) ?_
      obtain rfl := Option.some.inj h; exact Wc.ret dn
    · obtain ⟨ucm, h79, h⟩ := obind h
      refine Wc.r2 [{}, { r := some (.v (.bool u9n) []) }, { re := some (.bool false) }, {}, { r := some (.v (.bool ucl) []) }, {}, { re := some (.bool false) }, {}, { r := some (.v (.bool ucm) []) }] ⟨[tB 2 ucm], [], []⟩ (.cons (cspec_l05Small h75) (.cons (congrArg AV.bool h76) (.cons (cspec_l05Great h77) (.cons (congrArg AV.bool h78) (.cons (cspec_l05Figure h79) .nil))))) ?_
      obtain rfl := Option.some.inj h; exact Wc.ret dn

def pspec_l05Run_L1 (k : Nat) (u1j : ByteArray) : Nat → Int → Option (Out Int Int)
  | 0, _ => none
  | m + 1, u15 =>
    if (decide (u15 < (u1j.size : Int))) = true then
      if 0 ≤ u15 ∧ (u15).toNat < u1j.size then
        (pspec_l05Word k (bt u1j u15)).bind fun ucn =>
        if ucn = true then
          pspec_l05Run_L1 k u1j m (wr.i64 (u15 + 1))
        else
          some (.done u15)
      else none
    else
      some (.done u15)
def pspec_l05Run (k : Nat) (u1j : ByteArray) (u9o : Int) : Option Int :=
  (pspec_l05Run_L1 k u1j k u9o).bind fun out1 => match out1 with
  | .ret r => some r
  | .done u7c =>
    some u7c
theorem cspec_l05Run {k : Nat} {u1j : ByteArray} {u9o : Int} {r : Int} (h : pspec_l05Run k u1j u9o = some r) : FnO Try.prog 136 [.v (.str u1j) [], .v (aI u9o) []] (.v (aI r) []) [] := by
  refine FnO.o2 Try.func136 (rfl : Try.f136.body = some _) ?_
  intro w0 X0 Fin pv0 pb gt
  unfold pspec_l05Run at h
  apply Wc.seq
  refine Wc.r0 ⟨[tS 0 u1j, tI 1 u9o], [], []⟩ ?_
  obtain ⟨out1, h80, h⟩ := obind h
  refine Wc.seqJ (fun st => ∃ (u7c : Int), out1 = .done u7c ∧ st = ⟨[tI 1 u7c], [], []⟩) ?_ ?_
  · refine Wc.block ?_
    refine Wc.loop (fun m st => ∃ (u15 : Int), st = ⟨[tS 0 u1j, tI 1 u15], [], []⟩ ∧ pspec_l05Run_L1 k u1j m u15 = some out1) ?_ k ⟨_, rfl, h80⟩
    rintro m st ⟨u15, rfl, h80⟩
    cases m with
    | zero => exact (onone h80).elim
    | succ m =>
      apply Wc.seq
      apply Wc.seq
      rcases oif h80 with ⟨h81, h80⟩ | ⟨h81, h80⟩
      · obtain ⟨h82, h80⟩ := oguard h80
        obtain ⟨ucn, h83, h80⟩ := obind h80
        refine Wc.r2 [{}, {}, {}, {}, { re := some (.bool true) }, {}, {}, {}, { r := some (.v (.bool ucn) []) }] ⟨[tS 0 u1j, tI 1 u15, tB 14 ucn], [], []⟩ (.cons (congrArg AV.bool h81) (.cons h82 (.cons (cspec_l05Word h83) .nil))) ?_
        rcases oif h80 with ⟨h84, h80⟩ | ⟨h84, h80⟩
        · refine Wc.cT h84 ?_
          refine Wc.fx [] ⟨[tS 0 u1j, tI 1 u15], [], []⟩ ?_
          refine Wc.skip ?_
          refine Wc.block ?_
          refine Wc.r0 ⟨[tS 0 u1j, tI 1 (wr.i64 (u15 + 1))], [], []⟩ ?_
          exact ⟨_, Nat.lt_succ_self _, _, rfl, h80⟩
        · refine Wc.cF h84 ?_
          refine Wc.fx [] ⟨[tI 1 u15], [], []⟩ ?_
          refine Wc.exit ?_
          obtain rfl := Option.some.inj h80
          exact ⟨_, rfl, rfl⟩
      · refine Wc.r2 [{}, {}, {}, {}, { re := some (.bool false) }] ⟨[tS 0 u1j, tI 1 u15, tB 14 false], [], []⟩ (.cons (congrArg AV.bool h81) .nil) ?_
        refine Wc.cF rfl ?_
        refine Wc.fx [] ⟨[tI 1 u15], [], []⟩ ?_
        refine Wc.exit ?_
        obtain rfl := Option.some.inj h80
        exact ⟨_, rfl, rfl⟩
  · rintro st ⟨u7c, rfl, rfl⟩
    apply Wc.seq
    refine Wc.r0 ⟨[tI 4 u7c], [], []⟩ ?_
    obtain rfl := Option.some.inj h; exact Wc.ret dn

def pspec_l01In (k : Nat) (u64 : Int) (u9p : Int) (u7d : Int) : Option Bool :=
  if (decide (u64 ≥ u9p)) = true then
    some (decide (u64 ≤ u7d))
  else
    some false
theorem cspec_l01In {k : Nat} {u64 : Int} {u9p : Int} {u7d : Int} {r : Bool} (h : pspec_l01In k u64 u9p u7d = some r) : FnO Try.prog 102 [.v (aI u64) [], .v (aI u9p) [], .v (aI u7d) []] (.v (.bool r) []) [] := by
  refine FnO.o2 Try.func102 (rfl : Try.f102.body = some _) ?_
  intro w0 X0 Fin pv0 pb gt
  unfold pspec_l01In at h
  apply Wc.seq
  refine Wc.r0 ⟨[tI 0 u64, tI 1 u9p, tI 2 u7d], [], []⟩ ?_
  apply Wc.seq
  rcases oif h with ⟨h85, h⟩ | ⟨h85, h⟩
  · refine Wc.r2 [{}, {}, {}, { re := some (.bool true) }] ⟨[tB 6 (decide (u64 ≤ u7d))], [], []⟩ (.cons (congrArg AV.bool h85) .nil) ?_
    obtain rfl := Option.some.inj h; exact Wc.ret dn
  · refine Wc.r2 [{}, {}, {}, { re := some (.bool false) }] ⟨[tB 6 false], [], []⟩ (.cons (congrArg AV.bool h85) .nil) ?_
    obtain rfl := Option.some.inj h; exact Wc.ret dn

def pspec_l03Name_L1 (k : Nat) (vn : ByteArray) : Nat → Int → Option (Out Bool Unit)
  | 0, _ => none
  | m + 1, vz =>
    if (decide (vz < (vn.size : Int))) = true then
      if 0 ≤ vz ∧ (vz).toNat < vn.size then
        if (decide ((bt vn vz) < 33)) = true then
          some (.ret false)
        else
          if 0 ≤ vz ∧ (vz).toNat < vn.size then
            if (decide ((bt vn vz) > 126)) = true then
              some (.ret false)
            else
              if 0 ≤ vz ∧ (vz).toNat < vn.size then
                if ((bt vn vz) == 39) = true then
                  some (.ret false)
                else
                  if 0 ≤ vz ∧ (vz).toNat < vn.size then
                    if ((bt vn vz) == 34) = true then
                      some (.ret false)
                    else
                      pspec_l03Name_L1 k vn m (wr.i64 (vz + 1))
                  else none
              else none
          else none
      else none
    else
      some (.done ())
def pspec_l03Name (k : Nat) (vn : ByteArray) : Option Bool :=
  (pspec_l03Name_L1 k vn k 0).bind fun out1 => match out1 with
  | .ret r => some r
  | .done () =>
    (pspec_l01In k (vn.size : Int) 1 20).bind fun uco =>
    some uco
theorem cspec_l03Name {k : Nat} {vn : ByteArray} {r : Bool} (h : pspec_l03Name k vn = some r) : FnO Try.prog 63 [.v (.str vn) []] (.v (.bool r) []) [] := by
  refine FnO.o2 Try.func63 (rfl : Try.f63.body = some _) ?_
  intro w0 X0 Fin pv0 pb gt
  unfold pspec_l03Name at h
  apply Wc.seq
  refine Wc.r0 ⟨[tS 0 vn], [], []⟩ ?_
  apply Wc.seq
  apply Wc.seq
  refine Wc.r0 ⟨[tS 0 vn, tI 3 0], [], []⟩ ?_
  obtain ⟨out1, h86, h⟩ := obind h
  refine Wc.lastJ (fun st => out1 = .done () ∧ st = ⟨[tS 0 vn], [], []⟩) ?_ ?_
  · refine Wc.block ?_
    refine Wc.loop (fun m st => ∃ (vz : Int), st = ⟨[tS 0 vn, tI 3 vz], [], []⟩ ∧ pspec_l03Name_L1 k vn m vz = some out1) ?_ k ⟨_, rfl, h86⟩
    rintro m st ⟨vz, rfl, h86⟩
    cases m with
    | zero => exact (onone h86).elim
    | succ m =>
      apply Wc.seq
      apply Wc.seq
      refine Wc.r0 ⟨[tS 0 vn, tI 3 vz, tB 7 (decide (vz < (vn.size : Int)))], [], []⟩ ?_
      rcases oif h86 with ⟨h87, h86⟩ | ⟨h87, h86⟩
      · refine Wc.cT h87 ?_
        refine Wc.fx [] ⟨[tS 0 vn, tI 3 vz], [], []⟩ ?_
        refine Wc.skip ?_
        apply Wc.seq
        refine Wc.block ?_
        apply Wc.seq
        obtain ⟨h88, h86⟩ := oguard h86
        rcases oif h86 with ⟨h89, h86⟩ | ⟨h89, h86⟩
        · refine Wc.r2 [{}, {}, {}, {}, { re := some (.bool true) }] ⟨[tS 0 vn, tI 3 vz, tB 31 true], [], []⟩ (.cons h88 (.cons (congrArg AV.bool h89) .nil)) ?_
          refine Wc.cT rfl ?_
          apply Wc.seq
          refine Wc.r0 ⟨[tB 2 false], [], []⟩ ?_
          refine Wc.ret ?_
          obtain rfl := Option.some.inj h86
          obtain rfl := Option.some.inj h
          exact ⟨.inl rfl, by kernel_rfl, by kernel_rfl⟩
        · obtain ⟨h90, h86⟩ := oguard h86
          rcases oif h86 with ⟨h91, h86⟩ | ⟨h91, h86⟩
          · refine Wc.r2 [{}, {}, {}, {}, { re := some (.bool false) }, {}, {}, {}, {}, {}, { re := some (.bool true) }] ⟨[tS 0 vn, tI 3 vz, tB 31 true], [], []⟩ (.cons h88 (.cons (congrArg AV.bool h89) (.cons h90 (.cons (congrArg AV.bool h91) .nil)))) ?_
            refine Wc.cT rfl ?_
            apply Wc.seq
            refine Wc.r0 ⟨[tB 2 false], [], []⟩ ?_
            refine Wc.ret ?_
            obtain rfl := Option.some.inj h86
            obtain rfl := Option.some.inj h
            exact ⟨.inl rfl, by kernel_rfl, by kernel_rfl⟩
          · obtain ⟨h92, h86⟩ := oguard h86
            rcases oif h86 with ⟨h93, h86⟩ | ⟨h93, h86⟩
            · refine Wc.r2 [{}, {}, {}, {}, { re := some (.bool false) }, {}, {}, {}, {}, {}, { re := some (.bool false) }, {}, {}, {}, {}, {}, { re := some (.bool true) }] ⟨[tS 0 vn, tI 3 vz, tB 31 true], [], []⟩ (.cons h88 (.cons (congrArg AV.bool h89) (.cons h90 (.cons (congrArg AV.bool h91) (.cons h92 (.cons (congrArg AV.bool h93) .nil)))))) ?_
              refine Wc.cT rfl ?_
              apply Wc.seq
              refine Wc.r0 ⟨[tB 2 false], [], []⟩ ?_
              refine Wc.ret ?_
              obtain rfl := Option.some.inj h86
              obtain rfl := Option.some.inj h
              exact ⟨.inl rfl, by kernel_rfl, by kernel_rfl⟩
            · obtain ⟨h94, h86⟩ := oguard h86
              refine Wc.r2 [{}, {}, {}, {}, { re := some (.bool false) }, {}, {}, {}, {}, {}, { re := some (.bool false) }, {}, {}, {}, {}, {}, { re := some (.bool false) }] ⟨[tS 0 vn, tI 3 vz, tB 31 ((bt vn vz) == 34)], [], []⟩ (.cons h88 (.cons (congrArg AV.bool h89) (.cons h90 (.cons (congrArg AV.bool h91) (.cons h92 (.cons (congrArg AV.bool h93) (.cons h94 .nil))))))) ?_
              rcases oif h86 with ⟨h95, h86⟩ | ⟨h95, h86⟩
              · refine Wc.cT h95 ?_
                apply Wc.seq
                refine Wc.r0 ⟨[tB 2 false], [], []⟩ ?_
                refine Wc.ret ?_
                obtain rfl := Option.some.inj h86
                obtain rfl := Option.some.inj h
                exact ⟨.inl rfl, by kernel_rfl, by kernel_rfl⟩
              · refine Wc.cF h95 ?_
                refine Wc.fx [] ⟨[tS 0 vn, tI 3 vz], [], []⟩ ?_
                refine Wc.skip ?_
                refine Wc.r0 ⟨[tS 0 vn, tI 3 (wr.i64 (vz + 1))], [], []⟩ ?_
                exact ⟨_, Nat.lt_succ_self _, _, rfl, h86⟩
      · refine Wc.cF h87 ?_
        refine Wc.fx [] ⟨[tS 0 vn], [], []⟩ ?_
        refine Wc.exit ?_
        obtain rfl := Option.some.inj h86
        exact ⟨rfl, rfl⟩
  · rintro st ⟨rfl, rfl⟩
    apply Wc.seq
    obtain ⟨uco, h96, h⟩ := obind h
    refine Wc.r2 [{}, {}, { r := some (.v (.bool uco) []) }] ⟨[tB 2 uco], [], []⟩ (.cons (cspec_l01In h96) .nil) ?_
    obtain rfl := Option.some.inj h; exact Wc.ret dn

def pspec_l05Quoted_L1 (k : Nat) (u03 : ByteArray) (u0j : Int) : Nat → Int → Option (Out Int Unit)
  | 0, _ => none
  | m + 1, u04 =>
    if (decide (u04 < (u03.size : Int))) = true then
      if 0 ≤ u04 ∧ (u04).toNat < u03.size then
        if ((bt u03 u04) == 39) = true then
          if 0 ≤ (wr.i64 (u0j + 1)) ∧ (wr.i64 (u0j + 1)) ≤ u04 ∧ u04 ≤ (u03.size : Int) then
            (pspec_l03Name k (u03.extract ((wr.i64 (u0j + 1)) : Int).toNat (u04 : Int).toNat)).bind fun ucp =>
            if ucp = true then
              some (.ret (wr.i64 (u04 + 1)))
            else
              some (.ret 0)
          else none
        else
          pspec_l05Quoted_L1 k u03 u0j m (wr.i64 (u04 + 1))
      else none
    else
      some (.done ())
def pspec_l05Quoted (k : Nat) (u03 : ByteArray) (u0j : Int) : Option Int :=
  (pspec_l05Quoted_L1 k u03 u0j k (wr.i64 (u0j + 1))).bind fun out1 => match out1 with
  | .ret r => some r
  | .done () =>
    some 0
theorem cspec_l05Quoted {k : Nat} {u03 : ByteArray} {u0j : Int} {r : Int} (h : pspec_l05Quoted k u03 u0j = some r) : FnO Try.prog 138 [.v (.str u03) [], .v (aI u0j) []] (.v (aI r) []) [] := by
  refine FnO.o2 Try.func138 (rfl : Try.f138.body = some _) ?_
  intro w0 X0 Fin pv0 pb gt
  unfold pspec_l05Quoted at h
  apply Wc.seq
  refine Wc.r0 ⟨[tS 0 u03, tI 1 u0j], [], []⟩ ?_
  apply Wc.seq
  apply Wc.seq
  refine Wc.r0 ⟨[tS 0 u03, tI 1 u0j, tI 5 (wr.i64 (u0j + 1))], [], []⟩ ?_
  obtain ⟨out1, h97, h⟩ := obind h
  refine Wc.lastJ (fun st => out1 = .done () ∧ st = ⟨[], [], []⟩) ?_ ?_
  · refine Wc.block ?_
    refine Wc.loop (fun m st => ∃ (u04 : Int), st = ⟨[tS 0 u03, tI 1 u0j, tI 5 u04], [], []⟩ ∧ pspec_l05Quoted_L1 k u03 u0j m u04 = some out1) ?_ k ⟨_, rfl, h97⟩
    rintro m st ⟨u04, rfl, h97⟩
    cases m with
    | zero => exact (onone h97).elim
    | succ m =>
      apply Wc.seq
      apply Wc.seq
      refine Wc.r0 ⟨[tS 0 u03, tI 1 u0j, tI 5 u04, tB 11 (decide (u04 < (u03.size : Int)))], [], []⟩ ?_
      rcases oif h97 with ⟨h98, h97⟩ | ⟨h98, h97⟩
      · refine Wc.cT h98 ?_
        refine Wc.fx [] ⟨[tS 0 u03, tI 1 u0j, tI 5 u04], [], []⟩ ?_
        refine Wc.skip ?_
        apply Wc.seq
        refine Wc.block ?_
        apply Wc.seq
        obtain ⟨h99, h97⟩ := oguard h97
        refine Wc.r2 [] ⟨[tS 0 u03, tI 1 u0j, tI 5 u04, tB 17 ((bt u03 u04) == 39)], [], []⟩ (.cons h99 .nil) ?_
        rcases oif h97 with ⟨h100, h97⟩ | ⟨h100, h97⟩
        · refine Wc.cT h100 ?_
          apply Wc.seq
          apply Wc.seq
          obtain ⟨h101, h97⟩ := oguard h97
          obtain ⟨ucp, h102, h97⟩ := obind h97
          refine Wc.r2 [{}, {}, {}, {}, {}, { r := some (.v (.bool ucp) []) }] ⟨[tI 5 u04, tB 23 ucp], [], []⟩ (.cons h101 (.cons (cspec_l03Name h102) .nil)) ?_
          rcases oif h97 with ⟨h103, h97⟩ | ⟨h103, h97⟩
          · refine Wc.cT h103 ?_
            apply Wc.seq
            refine Wc.r0 ⟨[tI 4 (wr.i64 (u04 + 1))], [], []⟩ ?_
            refine Wc.ret ?_
            obtain rfl := Option.some.inj h97
            obtain rfl := Option.some.inj h
            exact ⟨.inl rfl, by kernel_rfl, by kernel_rfl⟩
          · refine Wc.cF h103 ?_
            refine Wc.fx [] ⟨[], [], []⟩ ?_
            refine Wc.skip ?_
            apply Wc.seq
            refine Wc.r0 ⟨[tI 4 0], [], []⟩ ?_
            refine Wc.ret ?_
            obtain rfl := Option.some.inj h97
            obtain rfl := Option.some.inj h
            exact ⟨.inl rfl, by kernel_rfl, by kernel_rfl⟩
        · refine Wc.cF h100 ?_
          refine Wc.fx [] ⟨[tS 0 u03, tI 1 u0j, tI 5 u04], [], []⟩ ?_
          refine Wc.skip ?_
          refine Wc.r0 ⟨[tS 0 u03, tI 1 u0j, tI 5 (wr.i64 (u04 + 1))], [], []⟩ ?_
          exact ⟨_, Nat.lt_succ_self _, _, rfl, h97⟩
      · refine Wc.cF h98 ?_
        refine Wc.fx [] ⟨[], [], []⟩ ?_
        refine Wc.exit ?_
        obtain rfl := Option.some.inj h97
        exact ⟨rfl, rfl⟩
  · rintro st ⟨rfl, rfl⟩
    apply Wc.seq
    refine Wc.r0 ⟨[tI 4 0], [], []⟩ ?_
    obtain rfl := Option.some.inj h; exact Wc.ret dn

def pspec_SymbolByte_L1 (k : Nat) (u0w : Int) : Nat → Int → Option (Out Bool Unit)
  | 0, _ => none
  | m + 1, u1k =>
    if (decide (u1k < ((bs [43, 45, 42, 47, 92, 94, 60, 62, 61, 126, 58, 46, 63, 64, 35, 38, 36]).size : Int))) = true then
      if 0 ≤ u1k ∧ (u1k).toNat < (bs [43, 45, 42, 47, 92, 94, 60, 62, 61, 126, 58, 46, 63, 64, 35, 38, 36]).size then
        if ((bt (bs [43, 45, 42, 47, 92, 94, 60, 62, 61, 126, 58, 46, 63, 64, 35, 38, 36]) u1k) == u0w) = true then
          some (.ret true)
        else
          pspec_SymbolByte_L1 k u0w m (wr.i64 (u1k + 1))
      else none
    else
      some (.done ())
def pspec_SymbolByte (k : Nat) (u0w : Int) : Option Bool :=
  (pspec_SymbolByte_L1 k u0w k 0).bind fun out1 => match out1 with
  | .ret r => some r
  | .done () =>
    some false
theorem cspec_SymbolByte {k : Nat} {u0w : Int} {r : Bool} (h : pspec_SymbolByte k u0w = some r) : FnO Try.prog 140 [.v (.int .u8 u0w) []] (.v (.bool r) []) [] := by
  refine FnO.o2 Try.func140 (rfl : Try.f140.body = some _) ?_
  intro w0 X0 Fin pv0 pb gt
  unfold pspec_SymbolByte at h
  apply Wc.seq
  refine Wc.r0 ⟨[tV 0 (.int .u8 u0w)], [], []⟩ ?_
  apply Wc.seq
  refine Wc.r0 ⟨[tV 0 (.int .u8 u0w), tS 3 (bs [43, 45, 42, 47, 92, 94, 60, 62, 61, 126, 58, 46, 63, 64, 35, 38, 36])], [], []⟩ ?_
  apply Wc.seq
  apply Wc.seq
  refine Wc.r0 ⟨[tV 0 (.int .u8 u0w), tS 3 (bs [43, 45, 42, 47, 92, 94, 60, 62, 61, 126, 58, 46, 63, 64, 35, 38, 36]), tI 4 0], [], []⟩ ?_
  obtain ⟨out1, h104, h⟩ := obind h
  refine Wc.lastJ (fun st => out1 = .done () ∧ st = ⟨[], [], []⟩) ?_ ?_
  · refine Wc.block ?_
    refine Wc.loop (fun m st => ∃ (u1k : Int), st = ⟨[tV 0 (.int .u8 u0w), tS 3 (bs [43, 45, 42, 47, 92, 94, 60, 62, 61, 126, 58, 46, 63, 64, 35, 38, 36]), tI 4 u1k], [], []⟩ ∧ pspec_SymbolByte_L1 k u0w m u1k = some out1) ?_ k ⟨_, rfl, h104⟩
    rintro m st ⟨u1k, rfl, h104⟩
    cases m with
    | zero => exact (onone h104).elim
    | succ m =>
      apply Wc.seq
      apply Wc.seq
      refine Wc.r0 ⟨[tV 0 (.int .u8 u0w), tS 3 (bs [43, 45, 42, 47, 92, 94, 60, 62, 61, 126, 58, 46, 63, 64, 35, 38, 36]), tI 4 u1k, tB 8 (decide (u1k < ((bs [43, 45, 42, 47, 92, 94, 60, 62, 61, 126, 58, 46, 63, 64, 35, 38, 36]).size : Int)))], [], []⟩ ?_
      rcases oif h104 with ⟨h105, h104⟩ | ⟨h105, h104⟩
      · refine Wc.cT h105 ?_
        refine Wc.fx [] ⟨[tV 0 (.int .u8 u0w), tS 3 (bs [43, 45, 42, 47, 92, 94, 60, 62, 61, 126, 58, 46, 63, 64, 35, 38, 36]), tI 4 u1k], [], []⟩ ?_
        refine Wc.skip ?_
        apply Wc.seq
        refine Wc.block ?_
        apply Wc.seq
        obtain ⟨h106, h104⟩ := oguard h104
        refine Wc.r2 [] ⟨[tV 0 (.int .u8 u0w), tS 3 (bs [43, 45, 42, 47, 92, 94, 60, 62, 61, 126, 58, 46, 63, 64, 35, 38, 36]), tI 4 u1k, tB 15 ((bt (bs [43, 45, 42, 47, 92, 94, 60, 62, 61, 126, 58, 46, 63, 64, 35, 38, 36]) u1k) == u0w)], [], []⟩ (.cons h106 .nil) ?_
        rcases oif h104 with ⟨h107, h104⟩ | ⟨h107, h104⟩
        · refine Wc.cT h107 ?_
          apply Wc.seq
          refine Wc.r0 ⟨[tB 2 true], [], []⟩ ?_
          refine Wc.ret ?_
          obtain rfl := Option.some.inj h104
          obtain rfl := Option.some.inj h
          exact ⟨.inl rfl, by kernel_rfl, by kernel_rfl⟩
        · refine Wc.cF h107 ?_
          refine Wc.fx [] ⟨[tV 0 (.int .u8 u0w), tS 3 (bs [43, 45, 42, 47, 92, 94, 60, 62, 61, 126, 58, 46, 63, 64, 35, 38, 36]), tI 4 u1k], [], []⟩ ?_
          refine Wc.skip ?_
          refine Wc.r0 ⟨[tV 0 (.int .u8 u0w), tS 3 (bs [43, 45, 42, 47, 92, 94, 60, 62, 61, 126, 58, 46, 63, 64, 35, 38, 36]), tI 4 (wr.i64 (u1k + 1))], [], []⟩ ?_
          exact ⟨_, Nat.lt_succ_self _, _, rfl, h104⟩
      · refine Wc.cF h105 ?_
        refine Wc.fx [] ⟨[], [], []⟩ ?_
        refine Wc.exit ?_
        obtain rfl := Option.some.inj h104
        exact ⟨rfl, rfl⟩
  · rintro st ⟨rfl, rfl⟩
    apply Wc.seq
    refine Wc.r0 ⟨[tB 2 false], [], []⟩ ?_
    obtain rfl := Option.some.inj h; exact Wc.ret dn

def pspec_l05End (k : Nat) (u0k : ByteArray) (z3 : Int) : Option Bool :=
  if 0 ≤ z3 ∧ (z3).toNat < u0k.size then
    if ((bt u0k z3) == 46) = true then
      if (z3 == 0) = true then
        if ((wr.i64 (z3 + 1)) == (u0k.size : Int)) = true then
          some true
        else
          if 0 ≤ wr.i64 (z3 + 1) ∧ (wr.i64 (z3 + 1)).toNat < u0k.size then
            (pspec_l05Blank k (bt u0k (wr.i64 (z3 + 1)))).bind fun u3m =>
            if u3m = true then
              some true
            else
              if 0 ≤ wr.i64 (z3 + 1) ∧ (wr.i64 (z3 + 1)).toNat < u0k.size then
                some ((bt u0k (wr.i64 (z3 + 1))) == 37)
              else none
          else none
      else
        if 0 ≤ wr.i64 (z3 - 1) ∧ (wr.i64 (z3 - 1)).toNat < u0k.size then
          (pspec_SymbolByte k (bt u0k (wr.i64 (z3 - 1)))).bind fun u3m =>
          if (!u3m) = true then
            if ((wr.i64 (z3 + 1)) == (u0k.size : Int)) = true then
              some true
            else
              if 0 ≤ wr.i64 (z3 + 1) ∧ (wr.i64 (z3 + 1)).toNat < u0k.size then
                (pspec_l05Blank k (bt u0k (wr.i64 (z3 + 1)))).bind fun ucq =>
                if ucq = true then
                  some true
                else
                  if 0 ≤ wr.i64 (z3 + 1) ∧ (wr.i64 (z3 + 1)).toNat < u0k.size then
                    some ((bt u0k (wr.i64 (z3 + 1))) == 37)
                  else none
              else none
          else
            some false
        else none
    else
      some false
  else none
theorem cspec_l05End {k : Nat} {u0k : ByteArray} {z3 : Int} {r : Bool} (h : pspec_l05End k u0k z3 = some r) : FnO Try.prog 139 [.v (.str u0k) [], .v (aI z3) []] (.v (.bool r) []) [] := by
  refine FnO.o2 Try.func139 (rfl : Try.f139.body = some _) ?_
  intro w0 X0 Fin pv0 pb gt
  unfold pspec_l05End at h
  apply Wc.seq
  refine Wc.r0 ⟨[tS 0 u0k, tI 1 z3], [], []⟩ ?_
  apply Wc.seq
  obtain ⟨h108, h⟩ := oguard h
  rcases oif h with ⟨h109, h⟩ | ⟨h109, h⟩
  · rcases oif h with ⟨h110, h⟩ | ⟨h110, h⟩
    · rcases oif h with ⟨h111, h⟩ | ⟨h111, h⟩
      · refine Wc.r2 [{}, {}, {}, {}, { re := some (.bool true) }, {}, {}, { re := some (.bool true) }, {}, {}, {}, {}, {}, {}, {}, {}, {}, {}, {}, {}, {}, {}, { re := some (.bool true) }] ⟨[tB 4 true], [], []⟩ (.cons h108 (.cons (congrArg AV.bool h109) (.cons (congrArg AV.bool h110) (.cons (congrArg AV.bool h111) .nil)))) ?_
        obtain rfl := Option.some.inj h; exact Wc.ret dn
      · obtain ⟨h112, h⟩ := oguard h
        obtain ⟨u3m, h113, h⟩ := obind h
        rcases oif h with ⟨h114, h⟩ | ⟨h114, h⟩
        · refine Wc.r2 [{}, {}, {}, {}, { re := some (.bool true) }, {}, {}, { re := some (.bool true) }, {}, {}, {}, {}, {}, {}, {}, {}, {}, {}, {}, {}, {}, {}, { re := some (.bool false) }, {}, {}, {}, {}, { r := some (.v (.bool u3m) []) }, {}, { re := some (.bool true) }] ⟨[tB 4 true], [], []⟩ (.cons h108 (.cons (congrArg AV.bool h109) (.cons (congrArg AV.bool h110) (.cons (congrArg AV.bool h111) (.cons h112 (.cons (cspec_l05Blank h113) (.cons (congrArg AV.bool h114) .nil))))))) ?_
          obtain rfl := Option.some.inj h; exact Wc.ret dn
        · obtain ⟨h115, h⟩ := oguard h
          refine Wc.r2 [{}, {}, {}, {}, { re := some (.bool true) }, {}, {}, { re := some (.bool true) }, {}, {}, {}, {}, {}, {}, {}, {}, {}, {}, {}, {}, {}, {}, { re := some (.bool false) }, {}, {}, {}, {}, { r := some (.v (.bool u3m) []) }, {}, { re := some (.bool false) }] ⟨[tB 4 ((bt u0k (wr.i64 (z3 + 1))) == 37)], [], []⟩ (.cons h108 (.cons (congrArg AV.bool h109) (.cons (congrArg AV.bool h110) (.cons (congrArg AV.bool h111) (.cons h112 (.cons (cspec_l05Blank h113) (.cons (congrArg AV.bool h114) (.cons h115 .nil)))))))) ?_
          obtain rfl := Option.some.inj h; exact Wc.ret dn
    · obtain ⟨h111, h⟩ := oguard h
      obtain ⟨u3m, h112, h⟩ := obind h
      rcases oif h with ⟨h113, h⟩ | ⟨h113, h⟩
      · rcases oif h with ⟨h114, h⟩ | ⟨h114, h⟩
        · refine Wc.r2 [{}, {}, {}, {}, { re := some (.bool true) }, {}, {}, { re := some (.bool false) }, {}, {}, {}, {}, { r := some (.v (.bool u3m) []) }, {}, {}, {}, { re := some (.bool true) }, {}, {}, {}, {}, {}, { re := some (.bool true) }] ⟨[tB 4 true], [], []⟩ (.cons h108 (.cons (congrArg AV.bool h109) (.cons (congrArg AV.bool h110) (.cons h111 (.cons (cspec_SymbolByte h112) (.cons (congrArg AV.bool h113) (.cons (congrArg AV.bool h114) .nil))))))) ?_
          obtain rfl := Option.some.inj h; exact Wc.ret dn
        · obtain ⟨h115, h⟩ := oguard h
          obtain ⟨ucq, h116, h⟩ := obind h
          rcases oif h with ⟨h117, h⟩ | ⟨h117, h⟩
          · refine Wc.r2 [{}, {}, {}, {}, { re := some (.bool true) }, {}, {}, { re := some (.bool false) }, {}, {}, {}, {}, { r := some (.v (.bool u3m) []) }, {}, {}, {}, { re := some (.bool true) }, {}, {}, {}, {}, {}, { re := some (.bool false) }, {}, {}, {}, {}, { r := some (.v (.bool ucq) []) }, {}, { re := some (.bool true) }] ⟨[tB 4 true], [], []⟩ (.cons h108 (.cons (congrArg AV.bool h109) (.cons (congrArg AV.bool h110) (.cons h111 (.cons (cspec_SymbolByte h112) (.cons (congrArg AV.bool h113) (.cons (congrArg AV.bool h114) (.cons h115 (.cons (cspec_l05Blank h116) (.cons (congrArg AV.bool h117) .nil)))))))))) ?_
            obtain rfl := Option.some.inj h; exact Wc.ret dn
          · obtain ⟨h118, h⟩ := oguard h
            refine Wc.r2 [{}, {}, {}, {}, { re := some (.bool true) }, {}, {}, { re := some (.bool false) }, {}, {}, {}, {}, { r := some (.v (.bool u3m) []) }, {}, {}, {}, { re := some (.bool true) }, {}, {}, {}, {}, {}, { re := some (.bool false) }, {}, {}, {}, {}, { r := some (.v (.bool ucq) []) }, {}, { re := some (.bool false) }] ⟨[tB 4 ((bt u0k (wr.i64 (z3 + 1))) == 37)], [], []⟩ (.cons h108 (.cons (congrArg AV.bool h109) (.cons (congrArg AV.bool h110) (.cons h111 (.cons (cspec_SymbolByte h112) (.cons (congrArg AV.bool h113) (.cons (congrArg AV.bool h114) (.cons h115 (.cons (cspec_l05Blank h116) (.cons (congrArg AV.bool h117) (.cons h118 .nil))))))))))) ?_
            obtain rfl := Option.some.inj h; exact Wc.ret dn
      · refine Wc.r2 [{}, {}, {}, {}, { re := some (.bool true) }, {}, {}, { re := some (.bool false) }, {}, {}, {}, {}, { r := some (.v (.bool u3m) []) }, {}, {}, {}, { re := some (.bool false) }] ⟨[tB 4 false], [], []⟩ (.cons h108 (.cons (congrArg AV.bool h109) (.cons (congrArg AV.bool h110) (.cons h111 (.cons (cspec_SymbolByte h112) (.cons (congrArg AV.bool h113) .nil)))))) ?_
        obtain rfl := Option.some.inj h; exact Wc.ret dn
  · refine Wc.r2 [{}, {}, {}, {}, { re := some (.bool false) }] ⟨[tB 4 false], [], []⟩ (.cons h108 (.cons (congrArg AV.bool h109) .nil)) ?_
    obtain rfl := Option.some.inj h; exact Wc.ret dn

def pspec_l05Sign_L2 (k : Nat) (u1 : ByteArray) : Nat → Int → Int → Option (Out (GSign × Int) (Int × Int))
  | 0, _, _ => none
  | m + 1, zd, u0r =>
    if (decide (zd < (u1.size : Int))) = true then
      if 0 ≤ zd ∧ (zd).toNat < u1.size then
        (pspec_l05Figure k (bt u1 zd)).bind fun ucr =>
        if ucr = true then
          if (decide (u0r ≤ 999999999)) = true then
            if 0 ≤ zd ∧ (zd).toNat < u1.size then
              pspec_l05Sign_L2 k u1 m (wr.i64 (zd + 1)) (wr.i64 ((wr.i64 ((wr.i64 (10 * u0r)) + (wr.i64 (bt u1 zd)))) - 48))
            else none
          else
            some (.done (zd, u0r))
        else
          some (.done (zd, u0r))
      else none
    else
      some (.done (zd, u0r))
def pspec_l05Sign_L5 (k : Nat) (u1 : ByteArray) : Nat → Int → Option (Out (GSign × Int) Int)
  | 0, _ => none
  | m + 1, u16 =>
    if (decide (u16 < (u1.size : Int))) = true then
      if 0 ≤ u16 ∧ (u16).toNat < u1.size then
        (pspec_SymbolByte k (bt u1 u16)).bind fun ucs =>
        if ucs = true then
          pspec_l05Sign_L5 k u1 m (wr.i64 (u16 + 1))
        else
          some (.done u16)
      else none
    else
      some (.done u16)
def pspec_l05Sign_J4 (k : Nat) (u1 : ByteArray) (u0 : Int) (u9q : Bool) : Option (GSign × Int) :=
  if u9q = true then
    some (GSign.mk 4 (u1.extract (u0 : Int).toNat ((wr.i64 (u0 + 1)) : Int).toNat) 0 u0 false, wr.i64 (u0 + 1))
  else
    (pspec_l05End k u1 u0).bind fun uct =>
    if uct = true then
      some (GSign.mk 5 (u1.extract (u0 : Int).toNat ((wr.i64 (u0 + 1)) : Int).toNat) 0 u0 false, wr.i64 (u0 + 1))
    else
      (pspec_SymbolByte k (bt u1 u0)).bind fun ucu =>
      if ucu = true then
        (pspec_l05Sign_L5 k u1 k u0).bind fun out5 => match out5 with
        | .ret r => some r
        | .done u0x =>
          if (decide ((wr.i64 (u0x - u0)) ≤ 20)) = true then
            if 0 ≤ u0 ∧ u0 ≤ u0x ∧ u0x ≤ (u1.size : Int) then
              some (GSign.mk 1 (u1.extract (u0 : Int).toNat (u0x : Int).toNat) 0 u0 false, u0x)
            else none
          else
            some (GSign.mk 6 (u1.extract (u0 : Int).toNat ((wr.i64 (u0 + 1)) : Int).toNat) 0 u0 false, wr.i64 (u0 + 1))
      else
        some (GSign.mk 6 (u1.extract (u0 : Int).toNat ((wr.i64 (u0 + 1)) : Int).toNat) 0 u0 false, wr.i64 (u0 + 1))
def pspec_l05Sign_J3 (k : Nat) (u1 : ByteArray) (u0 : Int) (u9r : Bool) : Option (GSign × Int) :=
  if u9r = true then
    some (GSign.mk 1 (u1.extract (u0 : Int).toNat ((wr.i64 (u0 + 1)) : Int).toNat) 0 u0 false, wr.i64 (u0 + 1))
  else
    if ((bt u1 u0) == 40) = true then
      pspec_l05Sign_J4 k u1 u0 true
    else
      if ((bt u1 u0) == 41) = true then
        pspec_l05Sign_J4 k u1 u0 true
      else
        if ((bt u1 u0) == 91) = true then
          pspec_l05Sign_J4 k u1 u0 true
        else
          if ((bt u1 u0) == 93) = true then
            pspec_l05Sign_J4 k u1 u0 true
          else
            if ((bt u1 u0) == 44) = true then
              pspec_l05Sign_J4 k u1 u0 true
            else
              pspec_l05Sign_J4 k u1 u0 ((bt u1 u0) == 124)
def pspec_l05Sign_J1 (k : Nat) (u1 : ByteArray) (u0 : Int) (u9s : Bool) : Option (GSign × Int) :=
  if u9s = true then
    (pspec_l05Run k u1 u0).bind fun vr =>
    if (decide ((wr.i64 (vr - u0)) ≤ 20)) = true then
      (pspec_l05Great k (bt u1 u0)).bind fun ucv =>
      if ucv = true then
        if 0 ≤ u0 ∧ u0 ≤ vr ∧ vr ≤ (u1.size : Int) then
          some (GSign.mk 2 (u1.extract (u0 : Int).toNat (vr : Int).toNat) 0 u0 false, vr)
        else none
      else
        if 0 ≤ u0 ∧ u0 ≤ vr ∧ vr ≤ (u1.size : Int) then
          some (GSign.mk 1 (u1.extract (u0 : Int).toNat (vr : Int).toNat) 0 u0 false, vr)
        else none
    else
      some (GSign.mk 6 (u1.extract (u0 : Int).toNat ((wr.i64 (u0 + 1)) : Int).toNat) 0 u0 false, wr.i64 (u0 + 1))
  else
    (pspec_l05Figure k (bt u1 u0)).bind fun ucw =>
    if ucw = true then
      (pspec_l05Sign_L2 k u1 k u0 0).bind fun out2 => match out2 with
      | .ret r => some r
      | .done (u65, u4i) =>
        if (decide (u4i ≤ 999999999)) = true then
          some (GSign.mk 3 (bs []) u4i u0 false, u65)
        else
          some (GSign.mk 6 (u1.extract (u0 : Int).toNat ((wr.i64 (u0 + 1)) : Int).toNat) 0 u0 false, wr.i64 (u0 + 1))
    else
      if ((bt u1 u0) == 39) = true then
        (pspec_l05Quoted k u1 u0).bind fun u1l =>
        if (decide (u1l > 0)) = true then
          if 0 ≤ (wr.i64 (u0 + 1)) ∧ (wr.i64 (u0 + 1)) ≤ (wr.i64 (u1l - 1)) ∧ (wr.i64 (u1l - 1)) ≤ (u1.size : Int) then
            some (GSign.mk 1 (u1.extract ((wr.i64 (u0 + 1)) : Int).toNat ((wr.i64 (u1l - 1)) : Int).toNat) 0 u0 false, u1l)
          else none
        else
          some (GSign.mk 6 (u1.extract (u0 : Int).toNat ((wr.i64 (u0 + 1)) : Int).toNat) 0 u0 false, wr.i64 (u0 + 1))
      else
        if ((bt u1 u0) == 33) = true then
          pspec_l05Sign_J3 k u1 u0 true
        else
          pspec_l05Sign_J3 k u1 u0 ((bt u1 u0) == 59)
def pspec_l05Sign (k : Nat) (u1 : ByteArray) (u0 : Int) : Option (GSign × Int) :=
  if 0 ≤ u0 ∧ (u0).toNat < u1.size then
    if 0 ≤ u0 ∧ u0 ≤ (wr.i64 (u0 + 1)) ∧ (wr.i64 (u0 + 1)) ≤ (u1.size : Int) then
      (pspec_l05Small k (bt u1 u0)).bind fun ucx =>
      if ucx = true then
        pspec_l05Sign_J1 k u1 u0 true
      else
        (pspec_l05Great k (bt u1 u0)).bind fun ucy =>
        pspec_l05Sign_J1 k u1 u0 ucy
    else none
  else none
set_option maxHeartbeats 4000000 in
theorem cspec_l05Sign {k : Nat} {u1 : ByteArray} {u0 : Int} {r : GSign × Int} (h : pspec_l05Sign k u1 u0 = some r) : FnO Try.prog 120 [.v (.str u1) [], .v (aI u0) []] (.v (.tup [.agg (GSign.q r.1), aI r.2]) []) [] := by
  refine FnO.o2 Try.func120 (rfl : Try.f120.body = some _) ?_
  intro w0 X0 Fin pv0 pb gt
  unfold pspec_l05Sign at h
  apply Wc.seq
  refine Wc.r0 ⟨[tS 0 u1, tI 1 u0, tP 4 4], [bC 4 GSign.z], []⟩ ?_
  apply Wc.seq
  obtain ⟨h119, h⟩ := oguard h
  refine Wc.r2 [] ⟨[tS 0 u1, tI 1 u0, tP 4 4, tV 6 (.int .u8 (bt u1 u0))], [bC 4 GSign.z], []⟩ (.cons h119 .nil) ?_
  apply Wc.seq
  obtain ⟨h120, h⟩ := oguard h
  refine Wc.r2 [] ⟨[tS 0 u1, tI 1 u0, tP 4 4, tV 6 (.int .u8 (bt u1 u0)), tP 7 7], [bC 4 GSign.z, bC 7 [aI 6, .str (u1.extract (u0 : Int).toNat ((wr.i64 (u0 + 1)) : Int).toNat), aI 0, aI u0, .bool false]], []⟩ (.cons h120 .nil) ?_
  apply Wc.seq
  refine Wc.r0 ⟨[tS 0 u1, tI 1 u0, tP 4 4, tV 6 (.int .u8 (bt u1 u0)), tP 7 7, tI 8 (wr.i64 (u0 + 1))], [bC 4 GSign.z, bC 7 [aI 6, .str (u1.extract (u0 : Int).toNat ((wr.i64 (u0 + 1)) : Int).toNat), aI 0, aI u0, .bool false]], []⟩ ?_
  apply Wc.seq
  refine Wc.block ?_
  refine Wc.seqJ (fun st => ∃ (u9s : Bool), st = ⟨[tS 0 u1, tI 1 u0, tP 4 4, tV 6 (.int .u8 (bt u1 u0)), tP 7 7, tI 8 (wr.i64 (u0 + 1)), tB 26 u9s], [bC 4 GSign.z, bC 7 [aI 6, .str (u1.extract (u0 : Int).toNat ((wr.i64 (u0 + 1)) : Int).toNat), aI 0, aI u0, .bool false]], []⟩ ∧ pspec_l05Sign_J1 k u1 u0 u9s = some r) ?_ ?_
  · obtain ⟨ucx, h161, h⟩ := obind h
    rcases oif h with ⟨h162, h⟩ | ⟨h162, h⟩
    · refine Wc.r2 [{}, { r := some (.v (.bool ucx) []) }, { re := some (.bool true) }] ⟨[tS 0 u1, tI 1 u0, tP 4 4, tV 6 (.int .u8 (bt u1 u0)), tP 7 7, tI 8 (wr.i64 (u0 + 1)), tB 26 true], [bC 4 GSign.z, bC 7 [aI 6, .str (u1.extract (u0 : Int).toNat ((wr.i64 (u0 + 1)) : Int).toNat), aI 0, aI u0, .bool false]], []⟩ (.cons (cspec_l05Small h161) (.cons (congrArg AV.bool h162) .nil)) ?_
      exact ⟨_, rfl, h⟩
    · obtain ⟨ucy, h163, h⟩ := obind h
      refine Wc.r2 [{}, { r := some (.v (.bool ucx) []) }, { re := some (.bool false) }, {}, { r := some (.v (.bool ucy) []) }] ⟨[tS 0 u1, tI 1 u0, tP 4 4, tV 6 (.int .u8 (bt u1 u0)), tP 7 7, tI 8 (wr.i64 (u0 + 1)), tB 26 ucy], [bC 4 GSign.z, bC 7 [aI 6, .str (u1.extract (u0 : Int).toNat ((wr.i64 (u0 + 1)) : Int).toNat), aI 0, aI u0, .bool false]], []⟩ (.cons (cspec_l05Small h161) (.cons (congrArg AV.bool h162) (.cons (cspec_l05Great h163) .nil))) ?_
      exact ⟨_, rfl, h⟩
  · rintro st ⟨u9s, rfl, h⟩
    rcases oif h with ⟨h121, h⟩ | ⟨h121, h⟩
    · refine Wc.cT h121 ?_
      apply Wc.seq
      obtain ⟨vr, h122, h⟩ := obind h
      refine Wc.r2 [{}, {}, { r := some (.v (aI vr) []) }] ⟨[tS 0 u1, tI 1 u0, tP 4 4, tV 6 (.int .u8 (bt u1 u0)), tP 7 7, tI 8 (wr.i64 (u0 + 1)), tI 9 vr], [bC 4 GSign.z, bC 7 [aI 6, .str (u1.extract (u0 : Int).toNat ((wr.i64 (u0 + 1)) : Int).toNat), aI 0, aI u0, .bool false]], []⟩ (.cons (cspec_l05Run h122) .nil) ?_
      apply Wc.seq
      refine Wc.r0 ⟨[tS 0 u1, tI 1 u0, tP 4 4, tV 6 (.int .u8 (bt u1 u0)), tP 7 7, tI 8 (wr.i64 (u0 + 1)), tI 9 vr, tB 39 (decide ((wr.i64 (vr - u0)) ≤ 20))], [bC 4 GSign.z, bC 7 [aI 6, .str (u1.extract (u0 : Int).toNat ((wr.i64 (u0 + 1)) : Int).toNat), aI 0, aI u0, .bool false]], []⟩ ?_
      rcases oif h with ⟨h123, h⟩ | ⟨h123, h⟩
      · refine Wc.cT h123 ?_
        apply Wc.seq
        refine Wc.r0 ⟨[tS 0 u1, tI 1 u0, tP 4 4, tV 6 (.int .u8 (bt u1 u0)), tP 7 7, tI 9 vr], [bC 4 GSign.z, bC 7 [aI 1, .str (u1.extract (u0 : Int).toNat ((wr.i64 (u0 + 1)) : Int).toNat), aI 0, aI u0, .bool false]], []⟩ ?_
        apply Wc.seq
        apply Wc.seq
        obtain ⟨ucv, h124, h⟩ := obind h
        refine Wc.r2 [{}, { r := some (.v (.bool ucv) []) }] ⟨[tS 0 u1, tI 1 u0, tP 4 4, tP 7 7, tI 9 vr, tB 42 ucv], [bC 4 GSign.z, bC 7 [aI 1, .str (u1.extract (u0 : Int).toNat ((wr.i64 (u0 + 1)) : Int).toNat), aI 0, aI u0, .bool false]], []⟩ (.cons (cspec_l05Great h124) .nil) ?_
        rcases oif h with ⟨h125, h⟩ | ⟨h125, h⟩
        · refine Wc.cT h125 ?_
          refine Wc.r0 ⟨[tS 0 u1, tI 1 u0, tP 4 4, tP 7 7, tI 9 vr], [bC 4 GSign.z, bC 7 [aI 2, .str (u1.extract (u0 : Int).toNat ((wr.i64 (u0 + 1)) : Int).toNat), aI 0, aI u0, .bool false]], []⟩ ?_
          apply Wc.seq
          obtain ⟨h126, h⟩ := oguard h
          refine Wc.r2 [] ⟨[tP 4 4, tP 7 7, tI 9 vr], [bC 4 GSign.z, bC 7 [aI 2, .str (u1.extract (u0 : Int).toNat (vr : Int).toNat), aI 0, aI u0, .bool false]], []⟩ (.cons h126 .nil) ?_
          refine Wc.r0 ⟨[tP 4 4, tP 7 7, tI 8 vr], [bC 4 GSign.z, bC 7 [aI 2, .str (u1.extract (u0 : Int).toNat (vr : Int).toNat), aI 0, aI u0, .bool false]], []⟩ ?_
          apply Wc.seq
          refine Wc.r0 ⟨[tP 4 4, tI 5 vr], [bC 4 [aI 2, .str (u1.extract (u0 : Int).toNat (vr : Int).toNat), aI 0, aI u0, .bool false]], []⟩ ?_
          obtain rfl := Option.some.inj h; exact Wc.ret dn
        · refine Wc.cF h125 ?_
          refine Wc.fx [] ⟨[tS 0 u1, tI 1 u0, tP 4 4, tP 7 7, tI 9 vr], [bC 4 GSign.z, bC 7 [aI 1, .str (u1.extract (u0 : Int).toNat ((wr.i64 (u0 + 1)) : Int).toNat), aI 0, aI u0, .bool false]], []⟩ ?_
          refine Wc.skip ?_
          apply Wc.seq
          obtain ⟨h127, h⟩ := oguard h
          refine Wc.r2 [] ⟨[tP 4 4, tP 7 7, tI 9 vr], [bC 4 GSign.z, bC 7 [aI 1, .str (u1.extract (u0 : Int).toNat (vr : Int).toNat), aI 0, aI u0, .bool false]], []⟩ (.cons h127 .nil) ?_
          refine Wc.r0 ⟨[tP 4 4, tP 7 7, tI 8 vr], [bC 4 GSign.z, bC 7 [aI 1, .str (u1.extract (u0 : Int).toNat (vr : Int).toNat), aI 0, aI u0, .bool false]], []⟩ ?_
          apply Wc.seq
          refine Wc.r0 ⟨[tP 4 4, tI 5 vr], [bC 4 [aI 1, .str (u1.extract (u0 : Int).toNat (vr : Int).toNat), aI 0, aI u0, .bool false]], []⟩ ?_
          obtain rfl := Option.some.inj h; exact Wc.ret dn
      · refine Wc.cF h123 ?_
        refine Wc.fx [] ⟨[tP 4 4, tP 7 7, tI 8 (wr.i64 (u0 + 1))], [bC 4 GSign.z, bC 7 [aI 6, .str (u1.extract (u0 : Int).toNat ((wr.i64 (u0 + 1)) : Int).toNat), aI 0, aI u0, .bool false]], []⟩ ?_
        refine Wc.skip ?_
        apply Wc.seq
        refine Wc.r0 ⟨[tP 4 4, tI 5 (wr.i64 (u0 + 1))], [bC 4 [aI 6, .str (u1.extract (u0 : Int).toNat ((wr.i64 (u0 + 1)) : Int).toNat), aI 0, aI u0, .bool false]], []⟩ ?_
        obtain rfl := Option.some.inj h; exact Wc.ret dn
    · refine Wc.cF h121 ?_
      apply Wc.seq
      obtain ⟨ucw, h128, h⟩ := obind h
      refine Wc.r2 [{}, { r := some (.v (.bool ucw) []) }] ⟨[tS 0 u1, tI 1 u0, tP 4 4, tV 6 (.int .u8 (bt u1 u0)), tP 7 7, tI 8 (wr.i64 (u0 + 1)), tB 50 ucw], [bC 4 GSign.z, bC 7 [aI 6, .str (u1.extract (u0 : Int).toNat ((wr.i64 (u0 + 1)) : Int).toNat), aI 0, aI u0, .bool false]], []⟩ (.cons (cspec_l05Figure h128) .nil) ?_
      rcases oif h with ⟨h129, h⟩ | ⟨h129, h⟩
      · refine Wc.cT h129 ?_
        apply Wc.seq
        refine Wc.r0 ⟨[tS 0 u1, tI 1 u0, tP 4 4, tP 7 7, tI 8 (wr.i64 (u0 + 1)), tI 10 u0], [bC 4 GSign.z, bC 7 [aI 6, .str (u1.extract (u0 : Int).toNat ((wr.i64 (u0 + 1)) : Int).toNat), aI 0, aI u0, .bool false]], []⟩ ?_
        apply Wc.seq
        refine Wc.r0 ⟨[tS 0 u1, tI 1 u0, tP 4 4, tP 7 7, tI 8 (wr.i64 (u0 + 1)), tI 10 u0, tI 11 0], [bC 4 GSign.z, bC 7 [aI 6, .str (u1.extract (u0 : Int).toNat ((wr.i64 (u0 + 1)) : Int).toNat), aI 0, aI u0, .bool false]], []⟩ ?_
        obtain ⟨out2, h130, h⟩ := obind h
        refine Wc.seqJ (fun st => ∃ (u65 : Int) (u4i : Int), out2 = .done (u65, u4i) ∧ st = ⟨[tI 1 u0, tP 4 4, tP 7 7, tI 8 (wr.i64 (u0 + 1)), tI 10 u65, tI 11 u4i], [bC 4 GSign.z, bC 7 [aI 6, .str (u1.extract (u0 : Int).toNat ((wr.i64 (u0 + 1)) : Int).toNat), aI 0, aI u0, .bool false]], []⟩) ?_ ?_
        · refine Wc.block ?_
          refine Wc.loop (fun m st => ∃ (zd : Int) (u0r : Int), st = ⟨[tS 0 u1, tI 1 u0, tP 4 4, tP 7 7, tI 8 (wr.i64 (u0 + 1)), tI 10 zd, tI 11 u0r], [bC 4 GSign.z, bC 7 [aI 6, .str (u1.extract (u0 : Int).toNat ((wr.i64 (u0 + 1)) : Int).toNat), aI 0, aI u0, .bool false]], []⟩ ∧ pspec_l05Sign_L2 k u1 m zd u0r = some out2) ?_ k ⟨_, _, rfl, h130⟩
          rintro m st ⟨zd, u0r, rfl, h130⟩
          cases m with
          | zero => exact (onone h130).elim
          | succ m =>
            apply Wc.seq
            apply Wc.seq
            rcases oif h130 with ⟨h131, h130⟩ | ⟨h131, h130⟩
            · obtain ⟨h132, h130⟩ := oguard h130
              obtain ⟨ucr, h133, h130⟩ := obind h130
              rcases oif h130 with ⟨h134, h130⟩ | ⟨h134, h130⟩
              · refine Wc.r2 [{}, {}, {}, {}, { re := some (.bool true) }, {}, {}, {}, { r := some (.v (.bool ucr) []) }, {}, { re := some (.bool true) }] ⟨[tS 0 u1, tI 1 u0, tP 4 4, tP 7 7, tI 8 (wr.i64 (u0 + 1)), tI 10 zd, tI 11 u0r, tB 67 (decide (u0r ≤ 999999999))], [bC 4 GSign.z, bC 7 [aI 6, .str (u1.extract (u0 : Int).toNat ((wr.i64 (u0 + 1)) : Int).toNat), aI 0, aI u0, .bool false]], []⟩ (.cons (congrArg AV.bool h131) (.cons h132 (.cons (cspec_l05Figure h133) (.cons (congrArg AV.bool h134) .nil)))) ?_
                rcases oif h130 with ⟨h135, h130⟩ | ⟨h135, h130⟩
                · refine Wc.cT h135 ?_
                  refine Wc.fx [] ⟨[tS 0 u1, tI 1 u0, tP 4 4, tP 7 7, tI 8 (wr.i64 (u0 + 1)), tI 10 zd, tI 11 u0r], [bC 4 GSign.z, bC 7 [aI 6, .str (u1.extract (u0 : Int).toNat ((wr.i64 (u0 + 1)) : Int).toNat), aI 0, aI u0, .bool false]], []⟩ ?_
                  refine Wc.skip ?_
                  refine Wc.block ?_
                  apply Wc.seq
                  obtain ⟨h136, h130⟩ := oguard h130
                  refine Wc.r2 [] ⟨[tS 0 u1, tI 1 u0, tP 4 4, tP 7 7, tI 8 (wr.i64 (u0 + 1)), tI 10 zd, tI 11 (wr.i64 ((wr.i64 ((wr.i64 (10 * u0r)) + (wr.i64 (bt u1 zd)))) - 48))], [bC 4 GSign.z, bC 7 [aI 6, .str (u1.extract (u0 : Int).toNat ((wr.i64 (u0 + 1)) : Int).toNat), aI 0, aI u0, .bool false]], []⟩ (.cons h136 .nil) ?_
                  refine Wc.r0 ⟨[tS 0 u1, tI 1 u0, tP 4 4, tP 7 7, tI 8 (wr.i64 (u0 + 1)), tI 10 (wr.i64 (zd + 1)), tI 11 (wr.i64 ((wr.i64 ((wr.i64 (10 * u0r)) + (wr.i64 (bt u1 zd)))) - 48))], [bC 4 GSign.z, bC 7 [aI 6, .str (u1.extract (u0 : Int).toNat ((wr.i64 (u0 + 1)) : Int).toNat), aI 0, aI u0, .bool false]], []⟩ ?_
                  exact ⟨_, Nat.lt_succ_self _, _, _, rfl, h130⟩
                · refine Wc.cF h135 ?_
                  refine Wc.fx [] ⟨[tI 1 u0, tP 4 4, tP 7 7, tI 8 (wr.i64 (u0 + 1)), tI 10 zd, tI 11 u0r], [bC 4 GSign.z, bC 7 [aI 6, .str (u1.extract (u0 : Int).toNat ((wr.i64 (u0 + 1)) : Int).toNat), aI 0, aI u0, .bool false]], []⟩ ?_
                  refine Wc.exit ?_
                  obtain rfl := Option.some.inj h130
                  exact ⟨_, _, rfl, rfl⟩
              · refine Wc.r2 [{}, {}, {}, {}, { re := some (.bool true) }, {}, {}, {}, { r := some (.v (.bool ucr) []) }, {}, { re := some (.bool false) }] ⟨[tS 0 u1, tI 1 u0, tP 4 4, tP 7 7, tI 8 (wr.i64 (u0 + 1)), tI 10 zd, tI 11 u0r, tB 67 false], [bC 4 GSign.z, bC 7 [aI 6, .str (u1.extract (u0 : Int).toNat ((wr.i64 (u0 + 1)) : Int).toNat), aI 0, aI u0, .bool false]], []⟩ (.cons (congrArg AV.bool h131) (.cons h132 (.cons (cspec_l05Figure h133) (.cons (congrArg AV.bool h134) .nil)))) ?_
                refine Wc.cF rfl ?_
                refine Wc.fx [] ⟨[tI 1 u0, tP 4 4, tP 7 7, tI 8 (wr.i64 (u0 + 1)), tI 10 zd, tI 11 u0r], [bC 4 GSign.z, bC 7 [aI 6, .str (u1.extract (u0 : Int).toNat ((wr.i64 (u0 + 1)) : Int).toNat), aI 0, aI u0, .bool false]], []⟩ ?_
                refine Wc.exit ?_
                obtain rfl := Option.some.inj h130
                exact ⟨_, _, rfl, rfl⟩
            · refine Wc.r2 [{}, {}, {}, {}, { re := some (.bool false) }] ⟨[tS 0 u1, tI 1 u0, tP 4 4, tP 7 7, tI 8 (wr.i64 (u0 + 1)), tI 10 zd, tI 11 u0r, tB 67 false], [bC 4 GSign.z, bC 7 [aI 6, .str (u1.extract (u0 : Int).toNat ((wr.i64 (u0 + 1)) : Int).toNat), aI 0, aI u0, .bool false]], []⟩ (.cons (congrArg AV.bool h131) .nil) ?_
              refine Wc.cF rfl ?_
              refine Wc.fx [] ⟨[tI 1 u0, tP 4 4, tP 7 7, tI 8 (wr.i64 (u0 + 1)), tI 10 zd, tI 11 u0r], [bC 4 GSign.z, bC 7 [aI 6, .str (u1.extract (u0 : Int).toNat ((wr.i64 (u0 + 1)) : Int).toNat), aI 0, aI u0, .bool false]], []⟩ ?_
              refine Wc.exit ?_
              obtain rfl := Option.some.inj h130
              exact ⟨_, _, rfl, rfl⟩
        · rintro st ⟨u65, u4i, rfl, rfl⟩
          apply Wc.seq
          refine Wc.r0 ⟨[tI 1 u0, tP 4 4, tP 7 7, tI 8 (wr.i64 (u0 + 1)), tI 10 u65, tI 11 u4i, tB 79 (decide (u4i ≤ 999999999))], [bC 4 GSign.z, bC 7 [aI 6, .str (u1.extract (u0 : Int).toNat ((wr.i64 (u0 + 1)) : Int).toNat), aI 0, aI u0, .bool false]], []⟩ ?_
          rcases oif h with ⟨h137, h⟩ | ⟨h137, h⟩
          · refine Wc.cT h137 ?_
            apply Wc.seq
            refine Wc.r0 ⟨[tP 4 4, tI 5 u65], [bC 4 [aI 3, .str (bs []), aI u4i, aI u0, .bool false]], []⟩ ?_
            obtain rfl := Option.some.inj h; exact Wc.ret dn
          · refine Wc.cF h137 ?_
            refine Wc.fx [] ⟨[tP 4 4, tP 7 7, tI 8 (wr.i64 (u0 + 1))], [bC 4 GSign.z, bC 7 [aI 6, .str (u1.extract (u0 : Int).toNat ((wr.i64 (u0 + 1)) : Int).toNat), aI 0, aI u0, .bool false]], []⟩ ?_
            refine Wc.skip ?_
            apply Wc.seq
            refine Wc.r0 ⟨[tP 4 4, tI 5 (wr.i64 (u0 + 1))], [bC 4 [aI 6, .str (u1.extract (u0 : Int).toNat ((wr.i64 (u0 + 1)) : Int).toNat), aI 0, aI u0, .bool false]], []⟩ ?_
            obtain rfl := Option.some.inj h; exact Wc.ret dn
      · refine Wc.cF h129 ?_
        apply Wc.seq
        refine Wc.r0 ⟨[tS 0 u1, tI 1 u0, tP 4 4, tV 6 (.int .u8 (bt u1 u0)), tP 7 7, tI 8 (wr.i64 (u0 + 1)), tB 84 ((bt u1 u0) == 39)], [bC 4 GSign.z, bC 7 [aI 6, .str (u1.extract (u0 : Int).toNat ((wr.i64 (u0 + 1)) : Int).toNat), aI 0, aI u0, .bool false]], []⟩ ?_
        rcases oif h with ⟨h138, h⟩ | ⟨h138, h⟩
        · refine Wc.cT h138 ?_
          apply Wc.seq
          obtain ⟨u1l, h139, h⟩ := obind h
          refine Wc.r2 [{}, {}, { r := some (.v (aI u1l) []) }] ⟨[tS 0 u1, tI 1 u0, tP 4 4, tP 7 7, tI 8 (wr.i64 (u0 + 1)), tI 12 u1l], [bC 4 GSign.z, bC 7 [aI 6, .str (u1.extract (u0 : Int).toNat ((wr.i64 (u0 + 1)) : Int).toNat), aI 0, aI u0, .bool false]], []⟩ (.cons (cspec_l05Quoted h139) .nil) ?_
          apply Wc.seq
          refine Wc.r0 ⟨[tS 0 u1, tI 1 u0, tP 4 4, tP 7 7, tI 8 (wr.i64 (u0 + 1)), tI 12 u1l, tB 91 (decide (u1l > 0))], [bC 4 GSign.z, bC 7 [aI 6, .str (u1.extract (u0 : Int).toNat ((wr.i64 (u0 + 1)) : Int).toNat), aI 0, aI u0, .bool false]], []⟩ ?_
          rcases oif h with ⟨h140, h⟩ | ⟨h140, h⟩
          · refine Wc.cT h140 ?_
            apply Wc.seq
            obtain ⟨h141, h⟩ := oguard h
            refine Wc.r2 [] ⟨[tP 4 4, tP 7 7, tI 12 u1l], [bC 4 GSign.z, bC 7 [aI 1, .str (u1.extract ((wr.i64 (u0 + 1)) : Int).toNat ((wr.i64 (u1l - 1)) : Int).toNat), aI 0, aI u0, .bool false]], []⟩ (.cons h141 .nil) ?_
            refine Wc.r0 ⟨[tP 4 4, tP 7 7, tI 8 u1l], [bC 4 GSign.z, bC 7 [aI 1, .str (u1.extract ((wr.i64 (u0 + 1)) : Int).toNat ((wr.i64 (u1l - 1)) : Int).toNat), aI 0, aI u0, .bool false]], []⟩ ?_
            apply Wc.seq
            refine Wc.r0 ⟨[tP 4 4, tI 5 u1l], [bC 4 [aI 1, .str (u1.extract ((wr.i64 (u0 + 1)) : Int).toNat ((wr.i64 (u1l - 1)) : Int).toNat), aI 0, aI u0, .bool false]], []⟩ ?_
            obtain rfl := Option.some.inj h; exact Wc.ret dn
          · refine Wc.cF h140 ?_
            refine Wc.fx [] ⟨[tP 4 4, tP 7 7, tI 8 (wr.i64 (u0 + 1))], [bC 4 GSign.z, bC 7 [aI 6, .str (u1.extract (u0 : Int).toNat ((wr.i64 (u0 + 1)) : Int).toNat), aI 0, aI u0, .bool false]], []⟩ ?_
            refine Wc.skip ?_
            apply Wc.seq
            refine Wc.r0 ⟨[tP 4 4, tI 5 (wr.i64 (u0 + 1))], [bC 4 [aI 6, .str (u1.extract (u0 : Int).toNat ((wr.i64 (u0 + 1)) : Int).toNat), aI 0, aI u0, .bool false]], []⟩ ?_
            obtain rfl := Option.some.inj h; exact Wc.ret dn
        · refine Wc.cF h138 ?_
          refine Wc.seqJ (fun st => ∃ (u9r : Bool), st = ⟨[tS 0 u1, tI 1 u0, tP 4 4, tV 6 (.int .u8 (bt u1 u0)), tP 7 7, tI 8 (wr.i64 (u0 + 1)), tB 101 u9r], [bC 4 GSign.z, bC 7 [aI 6, .str (u1.extract (u0 : Int).toNat ((wr.i64 (u0 + 1)) : Int).toNat), aI 0, aI u0, .bool false]], []⟩ ∧ pspec_l05Sign_J3 k u1 u0 u9r = some r) ?_ ?_
          · rcases oif h with ⟨h160, h⟩ | ⟨h160, h⟩
            · refine Wc.r2 [{}, {}, { re := some (.bool true) }] ⟨[tS 0 u1, tI 1 u0, tP 4 4, tV 6 (.int .u8 (bt u1 u0)), tP 7 7, tI 8 (wr.i64 (u0 + 1)), tB 101 true], [bC 4 GSign.z, bC 7 [aI 6, .str (u1.extract (u0 : Int).toNat ((wr.i64 (u0 + 1)) : Int).toNat), aI 0, aI u0, .bool false]], []⟩ (.cons (congrArg AV.bool h160) .nil) ?_
              exact ⟨_, rfl, h⟩
            · refine Wc.r2 [{}, {}, { re := some (.bool false) }] ⟨[tS 0 u1, tI 1 u0, tP 4 4, tV 6 (.int .u8 (bt u1 u0)), tP 7 7, tI 8 (wr.i64 (u0 + 1)), tB 101 ((bt u1 u0) == 59)], [bC 4 GSign.z, bC 7 [aI 6, .str (u1.extract (u0 : Int).toNat ((wr.i64 (u0 + 1)) : Int).toNat), aI 0, aI u0, .bool false]], []⟩ (.cons (congrArg AV.bool h160) .nil) ?_
              exact ⟨_, rfl, h⟩
          · rintro st ⟨u9r, rfl, h⟩
            rcases oif h with ⟨h142, h⟩ | ⟨h142, h⟩
            · refine Wc.cT h142 ?_
              refine Wc.r0 ⟨[tP 4 4, tP 7 7, tI 8 (wr.i64 (u0 + 1))], [bC 4 GSign.z, bC 7 [aI 1, .str (u1.extract (u0 : Int).toNat ((wr.i64 (u0 + 1)) : Int).toNat), aI 0, aI u0, .bool false]], []⟩ ?_
              apply Wc.seq
              refine Wc.r0 ⟨[tP 4 4, tI 5 (wr.i64 (u0 + 1))], [bC 4 [aI 1, .str (u1.extract (u0 : Int).toNat ((wr.i64 (u0 + 1)) : Int).toNat), aI 0, aI u0, .bool false]], []⟩ ?_
              obtain rfl := Option.some.inj h; exact Wc.ret dn
            · refine Wc.cF h142 ?_
              refine Wc.seqJ (fun st => ∃ (u9q : Bool), st = ⟨[tS 0 u1, tI 1 u0, tP 4 4, tV 6 (.int .u8 (bt u1 u0)), tP 7 7, tI 8 (wr.i64 (u0 + 1)), tB 109 u9q], [bC 4 GSign.z, bC 7 [aI 6, .str (u1.extract (u0 : Int).toNat ((wr.i64 (u0 + 1)) : Int).toNat), aI 0, aI u0, .bool false]], []⟩ ∧ pspec_l05Sign_J4 k u1 u0 u9q = some r) ?_ ?_
              · rcases oif h with ⟨h155, h⟩ | ⟨h155, h⟩
                · refine Wc.r2 [{}, {}, { re := some (.bool true) }] ⟨[tS 0 u1, tI 1 u0, tP 4 4, tV 6 (.int .u8 (bt u1 u0)), tP 7 7, tI 8 (wr.i64 (u0 + 1)), tB 109 true], [bC 4 GSign.z, bC 7 [aI 6, .str (u1.extract (u0 : Int).toNat ((wr.i64 (u0 + 1)) : Int).toNat), aI 0, aI u0, .bool false]], []⟩ (.cons (congrArg AV.bool h155) .nil) ?_
                  exact ⟨_, rfl, h⟩
                · rcases oif h with ⟨h156, h⟩ | ⟨h156, h⟩
                  · refine Wc.r2 [{}, {}, { re := some (.bool false) }, {}, {}, {}, { re := some (.bool true) }] ⟨[tS 0 u1, tI 1 u0, tP 4 4, tV 6 (.int .u8 (bt u1 u0)), tP 7 7, tI 8 (wr.i64 (u0 + 1)), tB 109 true], [bC 4 GSign.z, bC 7 [aI 6, .str (u1.extract (u0 : Int).toNat ((wr.i64 (u0 + 1)) : Int).toNat), aI 0, aI u0, .bool false]], []⟩ (.cons (congrArg AV.bool h155) (.cons (congrArg AV.bool h156) .nil)) ?_
                    exact ⟨_, rfl, h⟩
                  · rcases oif h with ⟨h157, h⟩ | ⟨h157, h⟩
                    · refine Wc.r2 [{}, {}, { re := some (.bool false) }, {}, {}, {}, { re := some (.bool false) }, {}, {}, {}, { re := some (.bool true) }] ⟨[tS 0 u1, tI 1 u0, tP 4 4, tV 6 (.int .u8 (bt u1 u0)), tP 7 7, tI 8 (wr.i64 (u0 + 1)), tB 109 true], [bC 4 GSign.z, bC 7 [aI 6, .str (u1.extract (u0 : Int).toNat ((wr.i64 (u0 + 1)) : Int).toNat), aI 0, aI u0, .bool false]], []⟩ (.cons (congrArg AV.bool h155) (.cons (congrArg AV.bool h156) (.cons (congrArg AV.bool h157) .nil))) ?_
                      exact ⟨_, rfl, h⟩
                    · rcases oif h with ⟨h158, h⟩ | ⟨h158, h⟩
                      · refine Wc.r2 [{}, {}, { re := some (.bool false) }, {}, {}, {}, { re := some (.bool false) }, {}, {}, {}, { re := some (.bool false) }, {}, {}, {}, { re := some (.bool true) }] ⟨[tS 0 u1, tI 1 u0, tP 4 4, tV 6 (.int .u8 (bt u1 u0)), tP 7 7, tI 8 (wr.i64 (u0 + 1)), tB 109 true], [bC 4 GSign.z, bC 7 [aI 6, .str (u1.extract (u0 : Int).toNat ((wr.i64 (u0 + 1)) : Int).toNat), aI 0, aI u0, .bool false]], []⟩ (.cons (congrArg AV.bool h155) (.cons (congrArg AV.bool h156) (.cons (congrArg AV.bool h157) (.cons (congrArg AV.bool h158) .nil)))) ?_
                        exact ⟨_, rfl, h⟩
                      · rcases oif h with ⟨h159, h⟩ | ⟨h159, h⟩
                        · refine Wc.r2 [{}, {}, { re := some (.bool false) }, {}, {}, {}, { re := some (.bool false) }, {}, {}, {}, { re := some (.bool false) }, {}, {}, {}, { re := some (.bool false) }, {}, {}, {}, { re := some (.bool true) }] ⟨[tS 0 u1, tI 1 u0, tP 4 4, tV 6 (.int .u8 (bt u1 u0)), tP 7 7, tI 8 (wr.i64 (u0 + 1)), tB 109 true], [bC 4 GSign.z, bC 7 [aI 6, .str (u1.extract (u0 : Int).toNat ((wr.i64 (u0 + 1)) : Int).toNat), aI 0, aI u0, .bool false]], []⟩ (.cons (congrArg AV.bool h155) (.cons (congrArg AV.bool h156) (.cons (congrArg AV.bool h157) (.cons (congrArg AV.bool h158) (.cons (congrArg AV.bool h159) .nil))))) ?_
                          exact ⟨_, rfl, h⟩
                        · refine Wc.r2 [{}, {}, { re := some (.bool false) }, {}, {}, {}, { re := some (.bool false) }, {}, {}, {}, { re := some (.bool false) }, {}, {}, {}, { re := some (.bool false) }, {}, {}, {}, { re := some (.bool false) }] ⟨[tS 0 u1, tI 1 u0, tP 4 4, tV 6 (.int .u8 (bt u1 u0)), tP 7 7, tI 8 (wr.i64 (u0 + 1)), tB 109 ((bt u1 u0) == 124)], [bC 4 GSign.z, bC 7 [aI 6, .str (u1.extract (u0 : Int).toNat ((wr.i64 (u0 + 1)) : Int).toNat), aI 0, aI u0, .bool false]], []⟩ (.cons (congrArg AV.bool h155) (.cons (congrArg AV.bool h156) (.cons (congrArg AV.bool h157) (.cons (congrArg AV.bool h158) (.cons (congrArg AV.bool h159) .nil))))) ?_
                          exact ⟨_, rfl, h⟩
              · rintro st ⟨u9q, rfl, h⟩
                rcases oif h with ⟨h143, h⟩ | ⟨h143, h⟩
                · refine Wc.cT h143 ?_
                  refine Wc.r0 ⟨[tP 4 4, tP 7 7, tI 8 (wr.i64 (u0 + 1))], [bC 4 GSign.z, bC 7 [aI 4, .str (u1.extract (u0 : Int).toNat ((wr.i64 (u0 + 1)) : Int).toNat), aI 0, aI u0, .bool false]], []⟩ ?_
                  apply Wc.seq
                  refine Wc.r0 ⟨[tP 4 4, tI 5 (wr.i64 (u0 + 1))], [bC 4 [aI 4, .str (u1.extract (u0 : Int).toNat ((wr.i64 (u0 + 1)) : Int).toNat), aI 0, aI u0, .bool false]], []⟩ ?_
                  obtain rfl := Option.some.inj h; exact Wc.ret dn
                · refine Wc.cF h143 ?_
                  apply Wc.seq
                  obtain ⟨uct, h144, h⟩ := obind h
                  refine Wc.r2 [{}, {}, { r := some (.v (.bool uct) []) }] ⟨[tS 0 u1, tI 1 u0, tP 4 4, tV 6 (.int .u8 (bt u1 u0)), tP 7 7, tI 8 (wr.i64 (u0 + 1)), tB 133 uct], [bC 4 GSign.z, bC 7 [aI 6, .str (u1.extract (u0 : Int).toNat ((wr.i64 (u0 + 1)) : Int).toNat), aI 0, aI u0, .bool false]], []⟩ (.cons (cspec_l05End h144) .nil) ?_
                  rcases oif h with ⟨h145, h⟩ | ⟨h145, h⟩
                  · refine Wc.cT h145 ?_
                    refine Wc.r0 ⟨[tP 4 4, tP 7 7, tI 8 (wr.i64 (u0 + 1))], [bC 4 GSign.z, bC 7 [aI 5, .str (u1.extract (u0 : Int).toNat ((wr.i64 (u0 + 1)) : Int).toNat), aI 0, aI u0, .bool false]], []⟩ ?_
                    apply Wc.seq
                    refine Wc.r0 ⟨[tP 4 4, tI 5 (wr.i64 (u0 + 1))], [bC 4 [aI 5, .str (u1.extract (u0 : Int).toNat ((wr.i64 (u0 + 1)) : Int).toNat), aI 0, aI u0, .bool false]], []⟩ ?_
                    obtain rfl := Option.some.inj h; exact Wc.ret dn
                  · refine Wc.cF h145 ?_
                    apply Wc.seq
                    obtain ⟨ucu, h146, h⟩ := obind h
                    refine Wc.r2 [{}, { r := some (.v (.bool ucu) []) }] ⟨[tS 0 u1, tI 1 u0, tP 4 4, tP 7 7, tI 8 (wr.i64 (u0 + 1)), tB 138 ucu], [bC 4 GSign.z, bC 7 [aI 6, .str (u1.extract (u0 : Int).toNat ((wr.i64 (u0 + 1)) : Int).toNat), aI 0, aI u0, .bool false]], []⟩ (.cons (cspec_SymbolByte h146) .nil) ?_
                    rcases oif h with ⟨h147, h⟩ | ⟨h147, h⟩
                    · refine Wc.cT h147 ?_
                      apply Wc.seq
                      refine Wc.r0 ⟨[tS 0 u1, tI 1 u0, tP 4 4, tP 7 7, tI 8 (wr.i64 (u0 + 1)), tI 13 u0], [bC 4 GSign.z, bC 7 [aI 6, .str (u1.extract (u0 : Int).toNat ((wr.i64 (u0 + 1)) : Int).toNat), aI 0, aI u0, .bool false]], []⟩ ?_
                      obtain ⟨out5, h148, h⟩ := obind h
                      refine Wc.seqJ (fun st => ∃ (u0x : Int), out5 = .done u0x ∧ st = ⟨[tS 0 u1, tI 1 u0, tP 4 4, tP 7 7, tI 8 (wr.i64 (u0 + 1)), tI 13 u0x], [bC 4 GSign.z, bC 7 [aI 6, .str (u1.extract (u0 : Int).toNat ((wr.i64 (u0 + 1)) : Int).toNat), aI 0, aI u0, .bool false]], []⟩) ?_ ?_
                      · refine Wc.block ?_
                        refine Wc.loop (fun m st => ∃ (u16 : Int), st = ⟨[tS 0 u1, tI 1 u0, tP 4 4, tP 7 7, tI 8 (wr.i64 (u0 + 1)), tI 13 u16], [bC 4 GSign.z, bC 7 [aI 6, .str (u1.extract (u0 : Int).toNat ((wr.i64 (u0 + 1)) : Int).toNat), aI 0, aI u0, .bool false]], []⟩ ∧ pspec_l05Sign_L5 k u1 m u16 = some out5) ?_ k ⟨_, rfl, h148⟩
                        rintro m st ⟨u16, rfl, h148⟩
                        cases m with
                        | zero => exact (onone h148).elim
                        | succ m =>
                          apply Wc.seq
                          apply Wc.seq
                          rcases oif h148 with ⟨h149, h148⟩ | ⟨h149, h148⟩
                          · obtain ⟨h150, h148⟩ := oguard h148
                            obtain ⟨ucs, h151, h148⟩ := obind h148
                            refine Wc.r2 [{}, {}, {}, {}, { re := some (.bool true) }, {}, {}, {}, { r := some (.v (.bool ucs) []) }] ⟨[tS 0 u1, tI 1 u0, tP 4 4, tP 7 7, tI 8 (wr.i64 (u0 + 1)), tI 13 u16, tB 151 ucs], [bC 4 GSign.z, bC 7 [aI 6, .str (u1.extract (u0 : Int).toNat ((wr.i64 (u0 + 1)) : Int).toNat), aI 0, aI u0, .bool false]], []⟩ (.cons (congrArg AV.bool h149) (.cons h150 (.cons (cspec_SymbolByte h151) .nil))) ?_
                            rcases oif h148 with ⟨h152, h148⟩ | ⟨h152, h148⟩
                            · refine Wc.cT h152 ?_
                              refine Wc.fx [] ⟨[tS 0 u1, tI 1 u0, tP 4 4, tP 7 7, tI 8 (wr.i64 (u0 + 1)), tI 13 u16], [bC 4 GSign.z, bC 7 [aI 6, .str (u1.extract (u0 : Int).toNat ((wr.i64 (u0 + 1)) : Int).toNat), aI 0, aI u0, .bool false]], []⟩ ?_
                              refine Wc.skip ?_
                              refine Wc.block ?_
                              refine Wc.r0 ⟨[tS 0 u1, tI 1 u0, tP 4 4, tP 7 7, tI 8 (wr.i64 (u0 + 1)), tI 13 (wr.i64 (u16 + 1))], [bC 4 GSign.z, bC 7 [aI 6, .str (u1.extract (u0 : Int).toNat ((wr.i64 (u0 + 1)) : Int).toNat), aI 0, aI u0, .bool false]], []⟩ ?_
                              exact ⟨_, Nat.lt_succ_self _, _, rfl, h148⟩
                            · refine Wc.cF h152 ?_
                              refine Wc.fx [] ⟨[tS 0 u1, tI 1 u0, tP 4 4, tP 7 7, tI 8 (wr.i64 (u0 + 1)), tI 13 u16], [bC 4 GSign.z, bC 7 [aI 6, .str (u1.extract (u0 : Int).toNat ((wr.i64 (u0 + 1)) : Int).toNat), aI 0, aI u0, .bool false]], []⟩ ?_
                              refine Wc.exit ?_
                              obtain rfl := Option.some.inj h148
                              exact ⟨_, rfl, rfl⟩
                          · refine Wc.r2 [{}, {}, {}, {}, { re := some (.bool false) }] ⟨[tS 0 u1, tI 1 u0, tP 4 4, tP 7 7, tI 8 (wr.i64 (u0 + 1)), tI 13 u16, tB 151 false], [bC 4 GSign.z, bC 7 [aI 6, .str (u1.extract (u0 : Int).toNat ((wr.i64 (u0 + 1)) : Int).toNat), aI 0, aI u0, .bool false]], []⟩ (.cons (congrArg AV.bool h149) .nil) ?_
                            refine Wc.cF rfl ?_
                            refine Wc.fx [] ⟨[tS 0 u1, tI 1 u0, tP 4 4, tP 7 7, tI 8 (wr.i64 (u0 + 1)), tI 13 u16], [bC 4 GSign.z, bC 7 [aI 6, .str (u1.extract (u0 : Int).toNat ((wr.i64 (u0 + 1)) : Int).toNat), aI 0, aI u0, .bool false]], []⟩ ?_
                            refine Wc.exit ?_
                            obtain rfl := Option.some.inj h148
                            exact ⟨_, rfl, rfl⟩
                      · rintro st ⟨u0x, rfl, rfl⟩
                        apply Wc.seq
                        refine Wc.r0 ⟨[tS 0 u1, tI 1 u0, tP 4 4, tP 7 7, tI 8 (wr.i64 (u0 + 1)), tI 13 u0x, tB 157 (decide ((wr.i64 (u0x - u0)) ≤ 20))], [bC 4 GSign.z, bC 7 [aI 6, .str (u1.extract (u0 : Int).toNat ((wr.i64 (u0 + 1)) : Int).toNat), aI 0, aI u0, .bool false]], []⟩ ?_
                        rcases oif h with ⟨h153, h⟩ | ⟨h153, h⟩
                        · refine Wc.cT h153 ?_
                          apply Wc.seq
                          refine Wc.r0 ⟨[tS 0 u1, tI 1 u0, tP 4 4, tP 7 7, tI 13 u0x], [bC 4 GSign.z, bC 7 [aI 1, .str (u1.extract (u0 : Int).toNat ((wr.i64 (u0 + 1)) : Int).toNat), aI 0, aI u0, .bool false]], []⟩ ?_
                          apply Wc.seq
                          obtain ⟨h154, h⟩ := oguard h
                          refine Wc.r2 [] ⟨[tP 4 4, tP 7 7, tI 13 u0x], [bC 4 GSign.z, bC 7 [aI 1, .str (u1.extract (u0 : Int).toNat (u0x : Int).toNat), aI 0, aI u0, .bool false]], []⟩ (.cons h154 .nil) ?_
                          refine Wc.r0 ⟨[tP 4 4, tP 7 7, tI 8 u0x], [bC 4 GSign.z, bC 7 [aI 1, .str (u1.extract (u0 : Int).toNat (u0x : Int).toNat), aI 0, aI u0, .bool false]], []⟩ ?_
                          apply Wc.seq
                          refine Wc.r0 ⟨[tP 4 4, tI 5 u0x], [bC 4 [aI 1, .str (u1.extract (u0 : Int).toNat (u0x : Int).toNat), aI 0, aI u0, .bool false]], []⟩ ?_
                          obtain rfl := Option.some.inj h; exact Wc.ret dn
                        · refine Wc.cF h153 ?_
                          refine Wc.fx [] ⟨[tP 4 4, tP 7 7, tI 8 (wr.i64 (u0 + 1))], [bC 4 GSign.z, bC 7 [aI 6, .str (u1.extract (u0 : Int).toNat ((wr.i64 (u0 + 1)) : Int).toNat), aI 0, aI u0, .bool false]], []⟩ ?_
                          refine Wc.skip ?_
                          apply Wc.seq
                          refine Wc.r0 ⟨[tP 4 4, tI 5 (wr.i64 (u0 + 1))], [bC 4 [aI 6, .str (u1.extract (u0 : Int).toNat ((wr.i64 (u0 + 1)) : Int).toNat), aI 0, aI u0, .bool false]], []⟩ ?_
                          obtain rfl := Option.some.inj h; exact Wc.ret dn
                    · refine Wc.cF h147 ?_
                      refine Wc.fx [] ⟨[tP 4 4, tP 7 7, tI 8 (wr.i64 (u0 + 1))], [bC 4 GSign.z, bC 7 [aI 6, .str (u1.extract (u0 : Int).toNat ((wr.i64 (u0 + 1)) : Int).toNat), aI 0, aI u0, .bool false]], []⟩ ?_
                      refine Wc.skip ?_
                      apply Wc.seq
                      refine Wc.r0 ⟨[tP 4 4, tI 5 (wr.i64 (u0 + 1))], [bC 4 [aI 6, .str (u1.extract (u0 : Int).toNat ((wr.i64 (u0 + 1)) : Int).toNat), aI 0, aI u0, .bool false]], []⟩ ?_
                      obtain rfl := Option.some.inj h; exact Wc.ret dn

def pspec_SignsOf_L2 (k : Nat) (ub : ByteArray) : Nat → Int → Option (Out ((List GSign) × Bool) Int)
  | 0, _ => none
  | m + 1, u0y =>
    if (decide (u0y < (ub.size : Int))) = true then
      if 0 ≤ u0y ∧ (u0y).toNat < ub.size then
        if ((bt ub u0y) != 10) = true then
          pspec_SignsOf_L2 k ub m (wr.i64 (u0y + 1))
        else
          some (.done u0y)
      else none
    else
      some (.done u0y)
def pspec_SignsOf_L1 (k : Nat) (ub : ByteArray) : Nat → (List GSign) → Int → Option (Out ((List GSign) × Bool) (List GSign))
  | 0, _, _ => none
  | m + 1, v2, zs =>
    if (decide (zs < (ub.size : Int))) = true then
      if 0 ≤ zs ∧ (zs).toNat < ub.size then
        (pspec_l05Blank k (bt ub zs)).bind fun ucz =>
        if ucz = true then
          pspec_SignsOf_L1 k ub m v2 (wr.i64 (zs + 1))
        else
          if 0 ≤ zs ∧ (zs).toNat < ub.size then
            if ((bt ub zs) == 37) = true then
              (pspec_SignsOf_L2 k ub k zs).bind fun out2 => match out2 with
              | .ret r => some (.ret r)
              | .done u9t =>
                pspec_SignsOf_L1 k ub m v2 u9t
            else
              (pspec_l05Sign k ub zs).bind fun u3 =>
              if (decide (u3.2 < (ub.size : Int))) = true then
                if 0 ≤ u3.2 ∧ (u3.2).toNat < ub.size then
                  if v2.length + [GSign.mk u3.1.gKind u3.1.gText u3.1.gNum u3.1.gAt ((bt ub u3.2) == 40)].length ≤ 1073741824 then
                    pspec_SignsOf_L1 k ub m (v2 ++ [GSign.mk u3.1.gKind u3.1.gText u3.1.gNum u3.1.gAt ((bt ub u3.2) == 40)]) u3.2
                  else none
                else none
              else
                if v2.length + [GSign.mk u3.1.gKind u3.1.gText u3.1.gNum u3.1.gAt false].length ≤ 1073741824 then
                  pspec_SignsOf_L1 k ub m (v2 ++ [GSign.mk u3.1.gKind u3.1.gText u3.1.gNum u3.1.gAt false]) u3.2
                else none
          else none
      else none
    else
      some (.done v2)
def pspec_SignsOf (k : Nat) (ub : ByteArray) : Option ((List GSign) × Bool) :=
  if (decide ((ub.size : Int) > 3000)) = true then
    some ([], false)
  else
    (pspec_SignsOf_L1 k ub k [] 0).bind fun out1 => match out1 with
    | .ret r => some r
    | .done u7e =>
      some (u7e, true)
set_option maxHeartbeats 4000000 in
theorem cspec_SignsOf {k : Nat} {ub : ByteArray} {r : (List GSign) × Bool} (h : pspec_SignsOf k ub = some r) : FnO Try.prog 92 [.v (.str ub) []] (.v (.tup [.sl (List.map GSign.c r.1), .bool r.2]) [(0, .app 142)]) [] := by
  refine FnO.o2 Try.func92 (rfl : Try.f92.body = some _) ?_
  intro w0 X0 Fin pv0 pb gt
  unfold pspec_SignsOf at h
  apply Wc.seq
  refine Wc.r0 ⟨[tS 0 ub], [], []⟩ ?_
  apply Wc.seq
  refine Wc.r2 [{ c := some (List.map GSign.c []) }, { tk := [8] }] ⟨[tS 0 ub, (4, (.v (.sl (List.map GSign.c [])), [(0, .app 142)]))], [], []⟩ (.cons (cl_nil GSign.c) .nil) ?_
  apply Wc.seq
  apply Wc.seq
  refine Wc.r0 ⟨[tS 0 ub, (4, (.v (.sl (List.map GSign.c [])), [(0, .app 142)])), tB 11 (decide ((ub.size : Int) > 3000))], [], []⟩ ?_
  rcases oif h with ⟨h181, h⟩ | ⟨h181, h⟩
  · refine Wc.cT h181 ?_
    apply Wc.seq
    refine Wc.r1 [{ tk := [4] }, { tk := [12] }] ⟨[(2, (.v (.sl (List.map GSign.c [])), [(0, .app 142)])), tB 3 false], [], []⟩ ?_
    obtain rfl := Option.some.inj h; exact Wc.ret dn
  · refine Wc.cF h181 ?_
    refine Wc.fx [] ⟨[tS 0 ub, (4, (.v (.sl (List.map GSign.c [])), [(0, .app 142)]))], [], []⟩ ?_
    refine Wc.skip ?_
    apply Wc.seq
    refine Wc.r0 ⟨[tS 0 ub, (4, (.v (.sl (List.map GSign.c [])), [(0, .app 142)])), tI 5 0], [], []⟩ ?_
    obtain ⟨out1, h182, h⟩ := obind h
    refine Wc.seqJ (fun st => ∃ (u7e : List GSign), out1 = .done u7e ∧ st = ⟨[(4, (.v (.sl (List.map GSign.c u7e)), [(0, .app 142)]))], [], []⟩) ?_ ?_
    · refine Wc.block ?_
      refine Wc.loop (fun m st => ∃ (v2 : List GSign) (zs : Int), st = ⟨[tS 0 ub, (4, (.v (.sl (List.map GSign.c v2)), [(0, .app 142)])), tI 5 zs], [], []⟩ ∧ pspec_SignsOf_L1 k ub m v2 zs = some out1) ?_ k ⟨_, _, rfl, h182⟩
      rintro m st ⟨v2, zs, rfl, h182⟩
      cases m with
      | zero => exact (onone h182).elim
      | succ m =>
        apply Wc.seq
        apply Wc.seq
        refine Wc.r0 ⟨[tS 0 ub, (4, (.v (.sl (List.map GSign.c v2)), [(0, .app 142)])), tI 5 zs, tB 16 (decide (zs < (ub.size : Int)))], [], []⟩ ?_
        rcases oif h182 with ⟨h183, h182⟩ | ⟨h183, h182⟩
        · refine Wc.cT h183 ?_
          refine Wc.fx [] ⟨[tS 0 ub, (4, (.v (.sl (List.map GSign.c v2)), [(0, .app 142)])), tI 5 zs], [], []⟩ ?_
          refine Wc.skip ?_
          refine Wc.block ?_
          apply Wc.seq
          apply Wc.seq
          obtain ⟨h184, h182⟩ := oguard h182
          obtain ⟨ucz, h185, h182⟩ := obind h182
          refine Wc.r2 [{}, {}, {}, { r := some (.v (.bool ucz) []) }] ⟨[tS 0 ub, (4, (.v (.sl (List.map GSign.c v2)), [(0, .app 142)])), tI 5 zs, tB 20 ucz], [], []⟩ (.cons h184 (.cons (cspec_l05Blank h185) .nil)) ?_
          rcases oif h182 with ⟨h186, h182⟩ | ⟨h186, h182⟩
          · refine Wc.cT h186 ?_
            apply Wc.seq
            refine Wc.r0 ⟨[tS 0 ub, (4, (.v (.sl (List.map GSign.c v2)), [(0, .app 142)])), tI 5 (wr.i64 (zs + 1))], [], []⟩ ?_
            refine Wc.exit ?_
            exact ⟨_, Nat.lt_succ_self _, _, _, rfl, h182⟩
          · refine Wc.cF h186 ?_
            refine Wc.fx [] ⟨[tS 0 ub, (4, (.v (.sl (List.map GSign.c v2)), [(0, .app 142)])), tI 5 zs], [], []⟩ ?_
            refine Wc.skip ?_
            apply Wc.seq
            apply Wc.seq
            obtain ⟨h187, h182⟩ := oguard h182
            refine Wc.r2 [] ⟨[tS 0 ub, (4, (.v (.sl (List.map GSign.c v2)), [(0, .app 142)])), tI 5 zs, tB 26 ((bt ub zs) == 37)], [], []⟩ (.cons h187 .nil) ?_
            rcases oif h182 with ⟨h188, h182⟩ | ⟨h188, h182⟩
            · refine Wc.cT h188 ?_
              obtain ⟨out2, h189, h182⟩ := obind h182
              refine Wc.seqJ (fun st => ∃ (u9t : Int), out2 = .done u9t ∧ st = ⟨[tS 0 ub, (4, (.v (.sl (List.map GSign.c v2)), [(0, .app 142)])), tI 5 u9t], [], []⟩) ?_ ?_
              · refine Wc.block ?_
                refine Wc.fx [] ⟨[tS 0 ub, (4, (.v (.sl (List.map GSign.c v2)), [(0, .app 142)])), tI 5 zs], [], []⟩ ?_
                refine Wc.loop (fun m st => ∃ (u0y : Int), st = ⟨[tS 0 ub, (4, (.v (.sl (List.map GSign.c v2)), [(0, .app 142)])), tI 5 u0y], [], []⟩ ∧ pspec_SignsOf_L2 k ub m u0y = some out2) ?_ k ⟨_, rfl, h189⟩
                rintro m st ⟨u0y, rfl, h189⟩
                cases m with
                | zero => exact (onone h189).elim
                | succ m =>
                  apply Wc.seq
                  apply Wc.seq
                  rcases oif h189 with ⟨h190, h189⟩ | ⟨h190, h189⟩
                  · obtain ⟨h191, h189⟩ := oguard h189
                    refine Wc.r2 [{}, {}, {}, {}, { re := some (.bool true) }] ⟨[tS 0 ub, (4, (.v (.sl (List.map GSign.c v2)), [(0, .app 142)])), tI 5 u0y, tB 36 ((bt ub u0y) != 10)], [], []⟩ (.cons (congrArg AV.bool h190) (.cons h191 .nil)) ?_
                    rcases oif h189 with ⟨h192, h189⟩ | ⟨h192, h189⟩
                    · refine Wc.cT h192 ?_
                      refine Wc.fx [] ⟨[tS 0 ub, (4, (.v (.sl (List.map GSign.c v2)), [(0, .app 142)])), tI 5 u0y], [], []⟩ ?_
                      refine Wc.skip ?_
                      refine Wc.block ?_
                      refine Wc.r0 ⟨[tS 0 ub, (4, (.v (.sl (List.map GSign.c v2)), [(0, .app 142)])), tI 5 (wr.i64 (u0y + 1))], [], []⟩ ?_
                      exact ⟨_, Nat.lt_succ_self _, _, rfl, h189⟩
                    · refine Wc.cF h192 ?_
                      refine Wc.fx [] ⟨[tS 0 ub, (4, (.v (.sl (List.map GSign.c v2)), [(0, .app 142)])), tI 5 u0y], [], []⟩ ?_
                      refine Wc.exit ?_
                      obtain rfl := Option.some.inj h189
                      exact ⟨_, rfl, rfl⟩
                  · refine Wc.r2 [{}, {}, {}, {}, { re := some (.bool false) }] ⟨[tS 0 ub, (4, (.v (.sl (List.map GSign.c v2)), [(0, .app 142)])), tI 5 u0y, tB 36 false], [], []⟩ (.cons (congrArg AV.bool h190) .nil) ?_
                    refine Wc.cF rfl ?_
                    refine Wc.fx [] ⟨[tS 0 ub, (4, (.v (.sl (List.map GSign.c v2)), [(0, .app 142)])), tI 5 u0y], [], []⟩ ?_
                    refine Wc.exit ?_
                    obtain rfl := Option.some.inj h189
                    exact ⟨_, rfl, rfl⟩
              · rintro st ⟨u9t, rfl, rfl⟩
                refine Wc.exit ?_
                exact ⟨_, Nat.lt_succ_self _, _, _, rfl, h182⟩
            · refine Wc.cF h188 ?_
              refine Wc.fx [] ⟨[tS 0 ub, (4, (.v (.sl (List.map GSign.c v2)), [(0, .app 142)])), tI 5 zs], [], []⟩ ?_
              refine Wc.skip ?_
              apply Wc.seq
              obtain ⟨u3, h193, h182⟩ := obind h182
              refine Wc.r2 [{}, {}, { r := some (.v (.tup [.agg (GSign.q u3.1), aI u3.2]) []) }] ⟨[tS 0 ub, (4, (.v (.sl (List.map GSign.c v2)), [(0, .app 142)])), tP 6 6, tI 7 u3.2], [bC 6 (GSign.q u3.1)], []⟩ (.cons (cspec_l05Sign h193) .nil) ?_
              apply Wc.seq
              rcases oif h182 with ⟨h194, h182⟩ | ⟨h194, h182⟩
              · obtain ⟨h195, h182⟩ := oguard h182
                refine Wc.r2 [{}, {}, {}, {}, { re := some (.bool true) }] ⟨[tS 0 ub, (4, (.v (.sl (List.map GSign.c v2)), [(0, .app 142)])), tP 6 6, tI 7 u3.2], [bC 6 [aI u3.1.gKind, .str u3.1.gText, aI u3.1.gNum, aI u3.1.gAt, .bool ((bt ub u3.2) == 40)]], []⟩ (.cons (congrArg AV.bool h194) (.cons h195 .nil)) ?_
                apply Wc.seq
                obtain ⟨h196, h182⟩ := oguard h182
                refine Wc.r2 [{ tk := [4] }, {}, { c := some (List.map GSign.c [GSign.mk u3.1.gKind u3.1.gText u3.1.gNum u3.1.gAt ((bt ub u3.2) == 40)]) }, { c := some (List.map GSign.c (v2 ++ [GSign.mk u3.1.gKind u3.1.gText u3.1.gNum u3.1.gAt ((bt ub u3.2) == 40)])), tk := [56] }, { tk := [59] }] ⟨[tS 0 ub, (4, (.v (.sl (List.map GSign.c (v2 ++ [GSign.mk u3.1.gKind u3.1.gText u3.1.gNum u3.1.gAt ((bt ub u3.2) == 40)]))), [(0, .app 142)])), tI 7 u3.2], [], []⟩ (.cons (cl_cons (c := GSign.c) (x := GSign.mk u3.1.gKind u3.1.gText u3.1.gNum u3.1.gAt ((bt ub u3.2) == 40)) (GSign.c_eq (GSign.mk u3.1.gKind u3.1.gText u3.1.gNum u3.1.gAt ((bt ub u3.2) == 40))) (cl_nil GSign.c)) (.cons (app_re2 GSign.c v2 [GSign.mk u3.1.gKind u3.1.gText u3.1.gNum u3.1.gAt ((bt ub u3.2) == 40)]) (.cons (app_leaf (c := GSign.c) (ys := [GSign.mk u3.1.gKind u3.1.gText u3.1.gNum u3.1.gAt ((bt ub u3.2) == 40)]) GSign.c_leaf) (.cons (app_obl2 (c := GSign.c) (xs := v2) (ys := [GSign.mk u3.1.gKind u3.1.gText u3.1.gNum u3.1.gAt ((bt ub u3.2) == 40)]) GSign.c_len h196) .nil)))) ?_
                refine Wc.r0 ⟨[tS 0 ub, (4, (.v (.sl (List.map GSign.c (v2 ++ [GSign.mk u3.1.gKind u3.1.gText u3.1.gNum u3.1.gAt ((bt ub u3.2) == 40)]))), [(0, .app 142)])), tI 5 u3.2], [], []⟩ ?_
                exact ⟨_, Nat.lt_succ_self _, _, _, rfl, h182⟩
              · refine Wc.r2 [{}, {}, {}, {}, { re := some (.bool false) }] ⟨[tS 0 ub, (4, (.v (.sl (List.map GSign.c v2)), [(0, .app 142)])), tP 6 6, tI 7 u3.2], [bC 6 [aI u3.1.gKind, .str u3.1.gText, aI u3.1.gNum, aI u3.1.gAt, .bool false]], []⟩ (.cons (congrArg AV.bool h194) .nil) ?_
                apply Wc.seq
                obtain ⟨h197, h182⟩ := oguard h182
                refine Wc.r2 [{ tk := [4] }, {}, { c := some (List.map GSign.c [GSign.mk u3.1.gKind u3.1.gText u3.1.gNum u3.1.gAt false]) }, { c := some (List.map GSign.c (v2 ++ [GSign.mk u3.1.gKind u3.1.gText u3.1.gNum u3.1.gAt false])), tk := [56] }, { tk := [59] }] ⟨[tS 0 ub, (4, (.v (.sl (List.map GSign.c (v2 ++ [GSign.mk u3.1.gKind u3.1.gText u3.1.gNum u3.1.gAt false]))), [(0, .app 142)])), tI 7 u3.2], [], []⟩ (.cons (cl_cons (c := GSign.c) (x := GSign.mk u3.1.gKind u3.1.gText u3.1.gNum u3.1.gAt false) (GSign.c_eq (GSign.mk u3.1.gKind u3.1.gText u3.1.gNum u3.1.gAt false)) (cl_nil GSign.c)) (.cons (app_re2 GSign.c v2 [GSign.mk u3.1.gKind u3.1.gText u3.1.gNum u3.1.gAt false]) (.cons (app_leaf (c := GSign.c) (ys := [GSign.mk u3.1.gKind u3.1.gText u3.1.gNum u3.1.gAt false]) GSign.c_leaf) (.cons (app_obl2 (c := GSign.c) (xs := v2) (ys := [GSign.mk u3.1.gKind u3.1.gText u3.1.gNum u3.1.gAt false]) GSign.c_len h197) .nil)))) ?_
                refine Wc.r0 ⟨[tS 0 ub, (4, (.v (.sl (List.map GSign.c (v2 ++ [GSign.mk u3.1.gKind u3.1.gText u3.1.gNum u3.1.gAt false]))), [(0, .app 142)])), tI 5 u3.2], [], []⟩ ?_
                exact ⟨_, Nat.lt_succ_self _, _, _, rfl, h182⟩
        · refine Wc.cF h183 ?_
          refine Wc.fx [] ⟨[(4, (.v (.sl (List.map GSign.c v2)), [(0, .app 142)]))], [], []⟩ ?_
          refine Wc.exit ?_
          obtain rfl := Option.some.inj h182
          exact ⟨_, rfl, rfl⟩
    · rintro st ⟨u7e, rfl, rfl⟩
      apply Wc.seq
      refine Wc.r1 [{ tk := [4] }, { tk := [61] }] ⟨[(2, (.v (.sl (List.map GSign.c u7e)), [(0, .app 142)])), tB 3 true], [], []⟩ ?_
      obtain rfl := Option.some.inj h; exact Wc.ret dn

def pspec_l03Count_L1 (k : Nat) (rspec_l03Count : GTerm → Int → Option Int) (z4 : GTerm) : Nat → Int → Int → Option (Out Int Int)
  | 0, _, _ => none
  | m + 1, u2f, u37 =>
    if (decide (u37 < (z4.gKids.length : Int))) = true then
      if (decide (u2f ≥ 0)) = true then
        (at' z4.gKids u37).bind fun u9u =>
        (rspec_l03Count u9u u2f).bind fun u9v =>
        pspec_l03Count_L1 k rspec_l03Count z4 m u9v (wr.i64 (u37 + 1))
      else
        some (.done u2f)
    else
      some (.done u2f)
mutual
def pspec_l03Count : Nat → GTerm → Int → Option Int
  | 0, _, _ => none
  | k + 1, z4, u38 =>
    (pspec_l03Count_L1 k (pspec_l03Count k) z4 k (wr.i64 (u38 - 1)) 0).bind fun out1 => match out1 with
    | .ret r => some r
    | .done u7f =>
      some u7f
end
theorem all_pspec_l03Count : ∀ k : Nat, (∀ {z4 : GTerm} {u38 : Int} {r : Int}, pspec_l03Count k z4 u38 = some r → FnO Try.prog 126 [.v (.agg (GTerm.q z4)) [], .v (aI u38) []] (.v (aI r) []) []) := by
  intro k
  induction k with
  | zero =>
    · intro z4 u38 r h
      exact (onone (by rw [pspec_l03Count] at h; exact h)).elim
  | succ k ih =>
    have ih_pspec_l03Count := @ih
    · intro z4 u38 r h
      rw [pspec_l03Count] at h
      refine FnO.o2 Try.func126 (rfl : Try.f126.body = some _) ?_
      intro w0 X0 Fin pv0 pb gt
      apply Wc.seq
      refine Wc.r0 ⟨[tI 1 u38, tP 2 2], [bC 2 (GTerm.q z4)], []⟩ ?_
      apply Wc.seq
      refine Wc.r0 ⟨[tI 1 (wr.i64 (u38 - 1)), tP 2 2], [bC 2 (GTerm.q z4)], []⟩ ?_
      apply Wc.seq
      apply Wc.seq
      refine Wc.r0 ⟨[tI 1 (wr.i64 (u38 - 1)), tP 2 2, tI 5 0], [bC 2 (GTerm.q z4)], []⟩ ?_
      obtain ⟨out1, h198, h⟩ := obind h
      refine Wc.lastJ (fun st => ∃ (u7f : Int), out1 = .done u7f ∧ st = ⟨[tI 1 u7f], [], []⟩) ?_ ?_
      · refine Wc.block ?_
        refine Wc.loop (fun m st => ∃ (u2f : Int) (u37 : Int), st = ⟨[tI 1 u2f, tP 2 2, tI 5 u37], [bC 2 (GTerm.q z4)], []⟩ ∧ pspec_l03Count_L1 k (pspec_l03Count k) z4 m u2f u37 = some out1) ?_ k ⟨_, _, rfl, h198⟩
        rintro m st ⟨u2f, u37, rfl, h198⟩
        cases m with
        | zero => exact (onone h198).elim
        | succ m =>
          apply Wc.seq
          apply Wc.seq
          rcases oif h198 with ⟨h199, h198⟩ | ⟨h199, h198⟩
          · refine Wc.r2 [{}, {}, {}, { v := some (aI (z4.gKids.length : Int)) }, {}, { re := some (.bool true) }] ⟨[tI 1 u2f, tP 2 2, tI 5 u37, tB 16 (decide (u2f ≥ 0))], [bC 2 (GTerm.q z4)], []⟩ (.cons (len_obl GTerm.c z4.gKids) (.cons (congrArg AV.bool h199) .nil)) ?_
            rcases oif h198 with ⟨h200, h198⟩ | ⟨h200, h198⟩
            · refine Wc.cT h200 ?_
              refine Wc.fx [] ⟨[tI 1 u2f, tP 2 2, tI 5 u37], [bC 2 (GTerm.q z4)], []⟩ ?_
              refine Wc.skip ?_
              apply Wc.seq
              refine Wc.block ?_
              obtain ⟨u9u, h201, h198⟩ := obind h198
              obtain ⟨u9v, h202, h198⟩ := obind h198
              refine Wc.r2 [{}, {}, {}, { v := some (.vptr (GTerm.q u9u)) }, {}, {}, { r := some (.v (aI u9v) []) }] ⟨[tI 1 u9v, tP 2 2, tI 5 u37], [bC 2 (GTerm.q z4)], []⟩ (.cons (at_obl (c := GTerm.c) (GTerm.c_eq u9u) GTerm.c_len h201) (.cons (len_ok 4 (GTerm.q u9u)) (.cons (ih_pspec_l03Count h202) .nil))) ?_
              refine Wc.r0 ⟨[tI 1 u9v, tP 2 2, tI 5 (wr.i64 (u37 + 1))], [bC 2 (GTerm.q z4)], []⟩ ?_
              exact ⟨_, Nat.lt_succ_self _, _, _, rfl, h198⟩
            · refine Wc.cF h200 ?_
              refine Wc.fx [] ⟨[tI 1 u2f], [], []⟩ ?_
              refine Wc.exit ?_
              obtain rfl := Option.some.inj h198
              exact ⟨_, rfl, rfl⟩
          · refine Wc.r2 [{}, {}, {}, { v := some (aI (z4.gKids.length : Int)) }, {}, { re := some (.bool false) }] ⟨[tI 1 u2f, tP 2 2, tI 5 u37, tB 16 false], [bC 2 (GTerm.q z4)], []⟩ (.cons (len_obl GTerm.c z4.gKids) (.cons (congrArg AV.bool h199) .nil)) ?_
            refine Wc.cF rfl ?_
            refine Wc.fx [] ⟨[tI 1 u2f], [], []⟩ ?_
            refine Wc.exit ?_
            obtain rfl := Option.some.inj h198
            exact ⟨_, rfl, rfl⟩
      · rintro st ⟨u7f, rfl, rfl⟩
        apply Wc.seq
        refine Wc.r0 ⟨[tI 4 u7f], [], []⟩ ?_
        obtain rfl := Option.some.inj h; exact Wc.ret dn
theorem cspec_l03Count {k : Nat} {z4 : GTerm} {u38 : Int} {r : Int} (h : pspec_l03Count k z4 u38 = some r) : FnO Try.prog 126 [.v (.agg (GTerm.q z4)) [], .v (aI u38) []] (.v (aI r) []) [] := (all_pspec_l03Count k) h

def pspec_l03One (k : Nat) (uz : GTerm) : Option Bool :=
  if (uz.gKind == 1) = true then
    (pspec_l01In k uz.gNum 0 99999).bind fun u9w =>
    if u9w = true then
      if (sEq uz.gName (bs [])) = true then
        some ((uz.gKids.length : Int) == 0)
      else
        some false
    else
      some false
  else
    if (uz.gKind == 2) = true then
      (pspec_l03Name k uz.gName).bind fun u9x =>
      if u9x = true then
        if (uz.gNum == 0) = true then
          some ((uz.gKids.length : Int) == 0)
        else
          some false
      else
        some false
    else
      if (uz.gKind == 3) = true then
        (pspec_l01In k uz.gNum (-999999999) 999999999).bind fun u9y =>
        if u9y = true then
          if (sEq uz.gName (bs [])) = true then
            some ((uz.gKids.length : Int) == 0)
          else
            some false
        else
          some false
      else
        if (uz.gKind == 4) = true then
          (pspec_l03Name k uz.gName).bind fun u9z =>
          if u9z = true then
            if (uz.gNum == 0) = true then
              (pspec_l01In k (uz.gKids.length : Int) 1 5).bind fun ud0 =>
              some ud0
            else
              some false
          else
            some false
        else
          some false
theorem cspec_l03One {k : Nat} {uz : GTerm} {r : Bool} (h : pspec_l03One k uz = some r) : FnO Try.prog 130 [.v (.agg (GTerm.q uz)) []] (.v (.bool r) []) [] := by
  refine FnO.o2 Try.func130 (rfl : Try.f130.body = some _) ?_
  intro w0 X0 Fin pv0 pb gt
  unfold pspec_l03One at h
  apply Wc.seq
  refine Wc.r0 ⟨[tP 1 1], [bC 1 (GTerm.q uz)], []⟩ ?_
  apply Wc.seq
  apply Wc.seq
  refine Wc.r0 ⟨[tP 1 1, tI 4 uz.gKind], [bC 1 (GTerm.q uz)], []⟩ ?_
  refine Wc.block ?_
  apply Wc.seq
  refine Wc.r0 ⟨[tP 1 1, tI 4 uz.gKind, tB 5 (uz.gKind == 1)], [bC 1 (GTerm.q uz)], []⟩ ?_
  rcases oif h with ⟨h203, h⟩ | ⟨h203, h⟩
  · refine Wc.cT h203 ?_
    apply Wc.seq
    obtain ⟨u9w, h204, h⟩ := obind h
    rcases oif h with ⟨h205, h⟩ | ⟨h205, h⟩
    · rcases oif h with ⟨h206, h⟩ | ⟨h206, h⟩
      · refine Wc.r2 [{}, {}, { r := some (.v (.bool u9w) []) }, { re := some (.bool true) }, {}, {}, {}, {}, { re := some (.bool true) }, {}, {}, { v := some (aI (uz.gKids.length : Int)) }] ⟨[tB 2 ((uz.gKids.length : Int) == 0)], [], []⟩ (.cons (cspec_l01In h204) (.cons (congrArg AV.bool h205) (.cons (congrArg AV.bool h206) (.cons (len_obl GTerm.c uz.gKids) .nil)))) ?_
        obtain rfl := Option.some.inj h; exact Wc.ret dn
      · refine Wc.r2 [{}, {}, { r := some (.v (.bool u9w) []) }, { re := some (.bool true) }, {}, {}, {}, {}, { re := some (.bool false) }] ⟨[tB 2 false], [], []⟩ (.cons (cspec_l01In h204) (.cons (congrArg AV.bool h205) (.cons (congrArg AV.bool h206) .nil))) ?_
        obtain rfl := Option.some.inj h; exact Wc.ret dn
    · refine Wc.r2 [{}, {}, { r := some (.v (.bool u9w) []) }, { re := some (.bool false) }] ⟨[tB 2 false], [], []⟩ (.cons (cspec_l01In h204) (.cons (congrArg AV.bool h205) .nil)) ?_
      obtain rfl := Option.some.inj h; exact Wc.ret dn
  · refine Wc.cF h203 ?_
    apply Wc.seq
    refine Wc.r0 ⟨[tP 1 1, tI 4 uz.gKind, tB 21 (uz.gKind == 2)], [bC 1 (GTerm.q uz)], []⟩ ?_
    rcases oif h with ⟨h207, h⟩ | ⟨h207, h⟩
    · refine Wc.cT h207 ?_
      apply Wc.seq
      obtain ⟨u9x, h208, h⟩ := obind h
      rcases oif h with ⟨h209, h⟩ | ⟨h209, h⟩
      · rcases oif h with ⟨h210, h⟩ | ⟨h210, h⟩
        · refine Wc.r2 [{}, {}, { r := some (.v (.bool u9x) []) }, { re := some (.bool true) }, {}, {}, {}, {}, { re := some (.bool true) }, {}, {}, { v := some (aI (uz.gKids.length : Int)) }] ⟨[tB 2 ((uz.gKids.length : Int) == 0)], [], []⟩ (.cons (cspec_l03Name h208) (.cons (congrArg AV.bool h209) (.cons (congrArg AV.bool h210) (.cons (len_obl GTerm.c uz.gKids) .nil)))) ?_
          obtain rfl := Option.some.inj h; exact Wc.ret dn
        · refine Wc.r2 [{}, {}, { r := some (.v (.bool u9x) []) }, { re := some (.bool true) }, {}, {}, {}, {}, { re := some (.bool false) }] ⟨[tB 2 false], [], []⟩ (.cons (cspec_l03Name h208) (.cons (congrArg AV.bool h209) (.cons (congrArg AV.bool h210) .nil))) ?_
          obtain rfl := Option.some.inj h; exact Wc.ret dn
      · refine Wc.r2 [{}, {}, { r := some (.v (.bool u9x) []) }, { re := some (.bool false) }] ⟨[tB 2 false], [], []⟩ (.cons (cspec_l03Name h208) (.cons (congrArg AV.bool h209) .nil)) ?_
        obtain rfl := Option.some.inj h; exact Wc.ret dn
    · refine Wc.cF h207 ?_
      apply Wc.seq
      refine Wc.r0 ⟨[tP 1 1, tI 4 uz.gKind, tB 37 (uz.gKind == 3)], [bC 1 (GTerm.q uz)], []⟩ ?_
      rcases oif h with ⟨h211, h⟩ | ⟨h211, h⟩
      · refine Wc.cT h211 ?_
        apply Wc.seq
        obtain ⟨u9y, h212, h⟩ := obind h
        rcases oif h with ⟨h213, h⟩ | ⟨h213, h⟩
        · rcases oif h with ⟨h214, h⟩ | ⟨h214, h⟩
          · refine Wc.r2 [{}, {}, { r := some (.v (.bool u9y) []) }, { re := some (.bool true) }, {}, {}, {}, {}, { re := some (.bool true) }, {}, {}, { v := some (aI (uz.gKids.length : Int)) }] ⟨[tB 2 ((uz.gKids.length : Int) == 0)], [], []⟩ (.cons (cspec_l01In h212) (.cons (congrArg AV.bool h213) (.cons (congrArg AV.bool h214) (.cons (len_obl GTerm.c uz.gKids) .nil)))) ?_
            obtain rfl := Option.some.inj h; exact Wc.ret dn
          · refine Wc.r2 [{}, {}, { r := some (.v (.bool u9y) []) }, { re := some (.bool true) }, {}, {}, {}, {}, { re := some (.bool false) }] ⟨[tB 2 false], [], []⟩ (.cons (cspec_l01In h212) (.cons (congrArg AV.bool h213) (.cons (congrArg AV.bool h214) .nil))) ?_
            obtain rfl := Option.some.inj h; exact Wc.ret dn
        · refine Wc.r2 [{}, {}, { r := some (.v (.bool u9y) []) }, { re := some (.bool false) }] ⟨[tB 2 false], [], []⟩ (.cons (cspec_l01In h212) (.cons (congrArg AV.bool h213) .nil)) ?_
          obtain rfl := Option.some.inj h; exact Wc.ret dn
      · refine Wc.cF h211 ?_
        apply Wc.seq
        refine Wc.r0 ⟨[tP 1 1, tB 53 (uz.gKind == 4)], [bC 1 (GTerm.q uz)], []⟩ ?_
        rcases oif h with ⟨h215, h⟩ | ⟨h215, h⟩
        · refine Wc.cT h215 ?_
          apply Wc.seq
          obtain ⟨u9z, h216, h⟩ := obind h
          rcases oif h with ⟨h217, h⟩ | ⟨h217, h⟩
          · rcases oif h with ⟨h218, h⟩ | ⟨h218, h⟩
            · obtain ⟨ud0, h219, h⟩ := obind h
              refine Wc.r2 [{}, {}, { r := some (.v (.bool u9z) []) }, { re := some (.bool true) }, {}, {}, {}, {}, { re := some (.bool true) }, {}, {}, { v := some (aI (uz.gKids.length : Int)) }, { r := some (.v (.bool ud0) []) }] ⟨[tB 2 ud0], [], []⟩ (.cons (cspec_l03Name h216) (.cons (congrArg AV.bool h217) (.cons (congrArg AV.bool h218) (.cons (len_obl GTerm.c uz.gKids) (.cons (cspec_l01In h219) .nil))))) ?_
              obtain rfl := Option.some.inj h; exact Wc.ret dn
            · refine Wc.r2 [{}, {}, { r := some (.v (.bool u9z) []) }, { re := some (.bool true) }, {}, {}, {}, {}, { re := some (.bool false) }] ⟨[tB 2 false], [], []⟩ (.cons (cspec_l03Name h216) (.cons (congrArg AV.bool h217) (.cons (congrArg AV.bool h218) .nil))) ?_
              obtain rfl := Option.some.inj h; exact Wc.ret dn
          · refine Wc.r2 [{}, {}, { r := some (.v (.bool u9z) []) }, { re := some (.bool false) }] ⟨[tB 2 false], [], []⟩ (.cons (cspec_l03Name h216) (.cons (congrArg AV.bool h217) .nil)) ?_
            obtain rfl := Option.some.inj h; exact Wc.ret dn
        · refine Wc.cF h215 ?_
          refine Wc.fx [] ⟨[], [], []⟩ ?_
          refine Wc.skip ?_
          apply Wc.seq
          refine Wc.r0 ⟨[tB 2 false], [], []⟩ ?_
          obtain rfl := Option.some.inj h; exact Wc.ret dn

def pspec_l03Right_L1 (k : Nat) (rspec_l03Right : GTerm → Int → Option Bool) (vw : GTerm) (zj : Int) : Nat → Int → Option (Out Bool Unit)
  | 0, _ => none
  | m + 1, u2t =>
    if (decide (u2t < (vw.gKids.length : Int))) = true then
      (at' vw.gKids u2t).bind fun ua0 =>
      (rspec_l03Right ua0 (wr.i64 (zj + 1))).bind fun ud1 =>
      if (!ud1) = true then
        some (.ret false)
      else
        pspec_l03Right_L1 k rspec_l03Right vw zj m (wr.i64 (u2t + 1))
    else
      some (.done ())
mutual
def pspec_l03Right : Nat → GTerm → Int → Option Bool
  | 0, _, _ => none
  | k + 1, vw, zj =>
    if (decide (zj > 40)) = true then
      some false
    else
      (pspec_l03One k vw).bind fun ud2 =>
      if (!ud2) = true then
        some false
      else
        (pspec_l03Right_L1 k (pspec_l03Right k) vw zj k 0).bind fun out1 => match out1 with
        | .ret r => some r
        | .done () =>
          some true
end
theorem all_pspec_l03Right : ∀ k : Nat, (∀ {vw : GTerm} {zj : Int} {r : Bool}, pspec_l03Right k vw zj = some r → FnO Try.prog 127 [.v (.agg (GTerm.q vw)) [], .v (aI zj) []] (.v (.bool r) []) []) := by
  intro k
  induction k with
  | zero =>
    · intro vw zj r h
      exact (onone (by rw [pspec_l03Right] at h; exact h)).elim
  | succ k ih =>
    have ih_pspec_l03Right := @ih
    · intro vw zj r h
      rw [pspec_l03Right] at h
      refine FnO.o2 Try.func127 (rfl : Try.f127.body = some _) ?_
      intro w0 X0 Fin pv0 pb gt
      apply Wc.seq
      refine Wc.r0 ⟨[tI 1 zj, tP 2 2], [bC 2 (GTerm.q vw)], []⟩ ?_
      apply Wc.seq
      apply Wc.seq
      rcases oif h with ⟨h220, h⟩ | ⟨h220, h⟩
      · refine Wc.r2 [{}, {}, { re := some (.bool true) }] ⟨[tI 1 zj, tP 2 2, tB 12 true], [bC 2 (GTerm.q vw)], []⟩ (.cons (congrArg AV.bool h220) .nil) ?_
        refine Wc.cT rfl ?_
        apply Wc.seq
        refine Wc.r0 ⟨[tB 4 false], [], []⟩ ?_
        obtain rfl := Option.some.inj h; exact Wc.ret dn
      · obtain ⟨ud2, h221, h⟩ := obind h
        refine Wc.r2 [{}, {}, { re := some (.bool false) }, {}, { r := some (.v (.bool ud2) []) }] ⟨[tI 1 zj, tP 2 2, tB 12 (!ud2)], [bC 2 (GTerm.q vw)], []⟩ (.cons (congrArg AV.bool h220) (.cons (cspec_l03One h221) .nil)) ?_
        rcases oif h with ⟨h222, h⟩ | ⟨h222, h⟩
        · refine Wc.cT h222 ?_
          apply Wc.seq
          refine Wc.r0 ⟨[tB 4 false], [], []⟩ ?_
          obtain rfl := Option.some.inj h; exact Wc.ret dn
        · refine Wc.cF h222 ?_
          refine Wc.fx [] ⟨[tI 1 zj, tP 2 2], [bC 2 (GTerm.q vw)], []⟩ ?_
          refine Wc.skip ?_
          apply Wc.seq
          apply Wc.seq
          refine Wc.r0 ⟨[tI 1 zj, tP 2 2, tI 5 0], [bC 2 (GTerm.q vw)], []⟩ ?_
          obtain ⟨out1, h223, h⟩ := obind h
          refine Wc.lastJ (fun st => out1 = .done () ∧ st = ⟨[], [], []⟩) ?_ ?_
          · refine Wc.block ?_
            refine Wc.loop (fun m st => ∃ (u2t : Int), st = ⟨[tI 1 zj, tP 2 2, tI 5 u2t], [bC 2 (GTerm.q vw)], []⟩ ∧ pspec_l03Right_L1 k (pspec_l03Right k) vw zj m u2t = some out1) ?_ k ⟨_, rfl, h223⟩
            rintro m st ⟨u2t, rfl, h223⟩
            cases m with
            | zero => exact (onone h223).elim
            | succ m =>
              apply Wc.seq
              apply Wc.seq
              refine Wc.r2 [{}, {}, {}, { v := some (aI (vw.gKids.length : Int)) }] ⟨[tI 1 zj, tP 2 2, tI 5 u2t, tB 17 (decide (u2t < (vw.gKids.length : Int)))], [bC 2 (GTerm.q vw)], []⟩ (.cons (len_obl GTerm.c vw.gKids) .nil) ?_
              rcases oif h223 with ⟨h224, h223⟩ | ⟨h224, h223⟩
              · refine Wc.cT h224 ?_
                refine Wc.fx [] ⟨[tI 1 zj, tP 2 2, tI 5 u2t], [bC 2 (GTerm.q vw)], []⟩ ?_
                refine Wc.skip ?_
                apply Wc.seq
                refine Wc.block ?_
                apply Wc.seq
                obtain ⟨ua0, h225, h223⟩ := obind h223
                obtain ⟨ud1, h226, h223⟩ := obind h223
                refine Wc.r2 [{}, {}, {}, { v := some (.vptr (GTerm.q ua0)) }, {}, {}, {}, { r := some (.v (.bool ud1) []) }] ⟨[tI 1 zj, tP 2 2, tI 5 u2t, tB 28 (!ud1)], [bC 2 (GTerm.q vw)], []⟩ (.cons (at_obl (c := GTerm.c) (GTerm.c_eq ua0) GTerm.c_len h225) (.cons (len_ok 4 (GTerm.q ua0)) (.cons (ih_pspec_l03Right h226) .nil))) ?_
                rcases oif h223 with ⟨h227, h223⟩ | ⟨h227, h223⟩
                · refine Wc.cT h227 ?_
                  apply Wc.seq
                  refine Wc.r0 ⟨[tB 4 false], [], []⟩ ?_
                  refine Wc.ret ?_
                  obtain rfl := Option.some.inj h223
                  obtain rfl := Option.some.inj h
                  exact ⟨.inl rfl, by kernel_rfl, by kernel_rfl⟩
                · refine Wc.cF h227 ?_
                  refine Wc.fx [] ⟨[tI 1 zj, tP 2 2, tI 5 u2t], [bC 2 (GTerm.q vw)], []⟩ ?_
                  refine Wc.skip ?_
                  refine Wc.r0 ⟨[tI 1 zj, tP 2 2, tI 5 (wr.i64 (u2t + 1))], [bC 2 (GTerm.q vw)], []⟩ ?_
                  exact ⟨_, Nat.lt_succ_self _, _, rfl, h223⟩
              · refine Wc.cF h224 ?_
                refine Wc.fx [] ⟨[], [], []⟩ ?_
                refine Wc.exit ?_
                obtain rfl := Option.some.inj h223
                exact ⟨rfl, rfl⟩
          · rintro st ⟨rfl, rfl⟩
            apply Wc.seq
            refine Wc.r0 ⟨[tB 4 true], [], []⟩ ?_
            obtain rfl := Option.some.inj h; exact Wc.ret dn
theorem cspec_l03Right {k : Nat} {vw : GTerm} {zj : Int} {r : Bool} (h : pspec_l03Right k vw zj = some r) : FnO Try.prog 127 [.v (.agg (GTerm.q vw)) [], .v (aI zj) []] (.v (.bool r) []) [] := (all_pspec_l03Right k) h

def pspec_TermOk (k : Nat) (u7g : GTerm) : Option Bool :=
  (pspec_l03Count k u7g 400).bind fun ud3 =>
  if (decide (ud3 ≥ 0)) = true then
    (pspec_l03Right k u7g 1).bind fun ud4 =>
    some ud4
  else
    some false
theorem cspec_TermOk {k : Nat} {u7g : GTerm} {r : Bool} (h : pspec_TermOk k u7g = some r) : FnO Try.prog 103 [.v (.agg (GTerm.q u7g)) []] (.v (.bool r) []) [] := by
  refine FnO.o2 Try.func103 (rfl : Try.f103.body = some _) ?_
  intro w0 X0 Fin pv0 pb gt
  unfold pspec_TermOk at h
  apply Wc.seq
  refine Wc.r0 ⟨[tP 1 1], [bC 1 (GTerm.q u7g)], []⟩ ?_
  apply Wc.seq
  obtain ⟨ud3, h228, h⟩ := obind h
  rcases oif h with ⟨h229, h⟩ | ⟨h229, h⟩
  · obtain ⟨ud4, h230, h⟩ := obind h
    refine Wc.r2 [{}, { r := some (.v (aI ud3) []) }, {}, { re := some (.bool true) }, {}, { r := some (.v (.bool ud4) []) }] ⟨[tB 2 ud4], [], []⟩ (.cons (cspec_l03Count h228) (.cons (congrArg AV.bool h229) (.cons (cspec_l03Right h230) .nil))) ?_
    obtain rfl := Option.some.inj h; exact Wc.ret dn
  · refine Wc.r2 [{}, { r := some (.v (aI ud3) []) }, {}, { re := some (.bool false) }] ⟨[tB 2 false], [], []⟩ (.cons (cspec_l03Count h228) (.cons (congrArg AV.bool h229) .nil)) ?_
    obtain rfl := Option.some.inj h; exact Wc.ret dn

def pspec_l06Behind_L2 (k : Nat) (vi : List GSign) : Nat → Int → Option (Out Int Unit)
  | 0, _ => none
  | m + 1, u1x =>
    if (decide (u1x < (vi.length : Int))) = true then
      (at' vi (wr.i64 ((wr.i64 (u1x + 1)) - 1))).bind fun u7h =>
      if (u7h.gKind == 5) = true then
        some (.ret (wr.i64 (u1x + 1)))
      else
        pspec_l06Behind_L2 k vi m (wr.i64 (u1x + 1))
    else
      some (.done ())
def pspec_l06Behind_J1 (k : Nat) (vi : List GSign) (ua1 : Int) : Option Int :=
  (pspec_l06Behind_L2 k vi k ua1).bind fun out2 => match out2 with
  | .ret r => some r
  | .done () =>
    some (vi.length : Int)
def pspec_l06Behind (k : Nat) (vi : List GSign) (u4j : Int) : Option Int :=
  if (decide (u4j < 0)) = true then
    pspec_l06Behind_J1 k vi 0
  else
    pspec_l06Behind_J1 k vi u4j
theorem cspec_l06Behind {k : Nat} {vi : List GSign} {u4j : Int} {r : Int} (h : pspec_l06Behind k vi u4j = some r) : FnO Try.prog 121 [.v (.sl (List.map GSign.c vi)) [], .v (aI u4j) []] (.v (aI r) []) [] := by
  refine FnO.o2 Try.func121 (rfl : Try.f121.body = some _) ?_
  intro w0 X0 Fin pv0 pb gt
  unfold pspec_l06Behind at h
  apply Wc.seq
  refine Wc.r0 ⟨[tV 0 (.sl (List.map GSign.c vi)), tI 1 u4j], [], []⟩ ?_
  refine Wc.seqJ (fun st => ∃ (ua1 : Int), st = ⟨[tV 0 (.sl (List.map GSign.c vi)), tI 1 ua1], [], []⟩ ∧ pspec_l06Behind_J1 k vi ua1 = some r) ?_ ?_
  · apply Wc.seq
    refine Wc.r0 ⟨[tV 0 (.sl (List.map GSign.c vi)), tI 1 u4j, tB 6 (decide (u4j < 0))], [], []⟩ ?_
    rcases oif h with ⟨h235, h⟩ | ⟨h235, h⟩
    · refine Wc.cT h235 ?_
      refine Wc.r0 ⟨[tV 0 (.sl (List.map GSign.c vi)), tI 1 0], [], []⟩ ?_
      exact ⟨_, rfl, h⟩
    · refine Wc.cF h235 ?_
      refine Wc.fx [] ⟨[tV 0 (.sl (List.map GSign.c vi)), tI 1 u4j], [], []⟩ ?_
      refine Wc.skip ?_
      exact ⟨_, rfl, h⟩
  · rintro st ⟨ua1, rfl, h⟩
    obtain ⟨out2, h231, h⟩ := obind h
    refine Wc.seqJ (fun st => out2 = .done () ∧ st = ⟨[tV 0 (.sl (List.map GSign.c vi))], [], []⟩) ?_ ?_
    · refine Wc.block ?_
      refine Wc.loop (fun m st => ∃ (u1x : Int), st = ⟨[tV 0 (.sl (List.map GSign.c vi)), tI 1 u1x], [], []⟩ ∧ pspec_l06Behind_L2 k vi m u1x = some out2) ?_ k ⟨_, rfl, h231⟩
      rintro m st ⟨u1x, rfl, h231⟩
      cases m with
      | zero => exact (onone h231).elim
      | succ m =>
        apply Wc.seq
        apply Wc.seq
        refine Wc.r2 [{}, {}, { v := some (aI (vi.length : Int)) }] ⟨[tV 0 (.sl (List.map GSign.c vi)), tI 1 u1x, tB 10 (decide (u1x < (vi.length : Int)))], [], []⟩ (.cons (len_obl GSign.c vi) .nil) ?_
        rcases oif h231 with ⟨h232, h231⟩ | ⟨h232, h231⟩
        · refine Wc.cT h232 ?_
          refine Wc.fx [] ⟨[tV 0 (.sl (List.map GSign.c vi)), tI 1 u1x], [], []⟩ ?_
          refine Wc.skip ?_
          refine Wc.block ?_
          apply Wc.seq
          refine Wc.r0 ⟨[tV 0 (.sl (List.map GSign.c vi)), tI 1 (wr.i64 (u1x + 1))], [], []⟩ ?_
          apply Wc.seq
          obtain ⟨u7h, h233, h231⟩ := obind h231
          refine Wc.r2 [{}, {}, {}, { v := some (.vptr (GSign.q u7h)) }] ⟨[tV 0 (.sl (List.map GSign.c vi)), tI 1 (wr.i64 (u1x + 1)), tB 19 (u7h.gKind == 5)], [], []⟩ (.cons (at_obl (c := GSign.c) (GSign.c_eq u7h) GSign.c_len h233) (.cons (len_ok 1 (GSign.q u7h)) .nil)) ?_
          rcases oif h231 with ⟨h234, h231⟩ | ⟨h234, h231⟩
          · refine Wc.cT h234 ?_
            apply Wc.seq
            refine Wc.r0 ⟨[tI 4 (wr.i64 (u1x + 1))], [], []⟩ ?_
            refine Wc.ret ?_
            obtain rfl := Option.some.inj h231
            obtain rfl := Option.some.inj h
            exact ⟨.inl rfl, by kernel_rfl, by kernel_rfl⟩
          · refine Wc.cF h234 ?_
            refine Wc.fx [] ⟨[tV 0 (.sl (List.map GSign.c vi)), tI 1 (wr.i64 (u1x + 1))], [], []⟩ ?_
            refine Wc.skip ?_
            exact ⟨_, Nat.lt_succ_self _, _, rfl, h231⟩
        · refine Wc.cF h232 ?_
          refine Wc.fx [] ⟨[tV 0 (.sl (List.map GSign.c vi))], [], []⟩ ?_
          refine Wc.exit ?_
          obtain rfl := Option.some.inj h231
          exact ⟨rfl, rfl⟩
    · rintro st ⟨rfl, rfl⟩
      apply Wc.seq
      refine Wc.r2 [{}, { v := some (aI (vi.length : Int)) }] ⟨[tI 4 (vi.length : Int)], [], []⟩ (.cons (len_obl GSign.c vi) .nil) ?_
      obtain rfl := Option.some.inj h; exact Wc.ret dn

def pspec_l03Two (k : Nat) (u7i : ByteArray) (u4k : GTerm) (u4l : GTerm) : Option GTerm :=
  some (GTerm.mk 4 u7i 0 [u4k, u4l])
theorem cspec_l03Two {k : Nat} {u7i : ByteArray} {u4k : GTerm} {u4l : GTerm} {r : GTerm} (h : pspec_l03Two k u7i u4k u4l = some r) : FnO Try.prog 64 [.v (.str u7i) [], .v (.agg (GTerm.q u4k)) [], .v (.agg (GTerm.q u4l)) []] (.v (.agg (GTerm.q r)) [(3, .app 41)]) [] := by
  refine FnO.o2 Try.func64 (rfl : Try.f64.body = some _) ?_
  intro w0 X0 Fin pv0 pb gt
  unfold pspec_l03Two at h
  apply Wc.seq
  refine Wc.r0 ⟨[tS 0 u7i, tP 4 4, tP 5 5, tP 6 6], [bC 4 (GTerm.q u4k), bC 5 (GTerm.q u4l), (6, .cells GTerm.z [(3, .app 41)])], []⟩ ?_
  apply Wc.seq
  refine Wc.r2 [{}, {}, {}, { c := some (List.map GTerm.c [u4k, u4l]) }, { tk := [10] }, { tk := [11] }] ⟨[tP 6 6], [(6, .cells [aI 4, .str u7i, aI 0, .sl (List.map GTerm.c [u4k, u4l])] [(3, .app 41)])], []⟩ (.cons (cl_cons (c := GTerm.c) (x := u4k) (GTerm.c_eq u4k) (cl_cons (c := GTerm.c) (x := u4l) (GTerm.c_eq u4l) (cl_nil GTerm.c))) .nil) ?_
  obtain rfl := Option.some.inj h; exact Wc.ret dn

def pspec_l06Read_is (k : Nat) (uj : GL06Read) (ua2 : Int) (u66 : ByteArray) : Option (GL06Read × Bool) :=
  if (!uj.gBad) = true then
    if (decide (uj.gAt < (uj.gList.length : Int))) = true then
      (at' uj.gList uj.gAt).bind fun u3n =>
      if (u3n.gKind == ua2) = true then
        if (sEq u66 (bs [])) = true then
          some (uj, true)
        else
          (at' uj.gList uj.gAt).bind fun u4m =>
          some (uj, sEq u4m.gText u66)
      else
        some (uj, false)
    else
      some (uj, false)
  else
    some (uj, false)
theorem cspec_l06Read_is {k : Nat} {uj : GL06Read} {ua2 : Int} {u66 : ByteArray} {r : GL06Read × Bool} (h : pspec_l06Read_is k uj ua2 u66 = some r) : FnO Try.prog 123 [.p (GL06Read.k2 uj) (GL06Read.h4_9f uj), .v (aI ua2) [], .v (.str u66) []] (.v (.bool r.2) []) [(0, .p (GL06Read.k2 r.1) (GL06Read.h4_9f r.1))] := by
  refine FnO.o2 Try.func123 (rfl : Try.f123.body = some _) ?_
  intro w0 X0 Fin pv0 pb gt
  unfold pspec_l06Read_is at h
  apply Wc.seq
  refine Wc.r0 ⟨[tP 0 1000000, tI 1 ua2, tS 2 u66], [(1000000, .cells (GL06Read.k2 uj) (GL06Read.h4_9f uj))], []⟩ ?_
  apply Wc.seq
  rcases oif h with ⟨h236, h⟩ | ⟨h236, h⟩
  · rcases oif h with ⟨h237, h⟩ | ⟨h237, h⟩
    · obtain ⟨u3n, h238, h⟩ := obind h
      rcases oif h with ⟨h239, h⟩ | ⟨h239, h⟩
      · rcases oif h with ⟨h240, h⟩ | ⟨h240, h⟩
        · refine Wc.draw hmix [{}, {}, {}, {}, {}, { re := some (.bool true) }, {}, {}, {}, {}, {}, {}, {}, {}, { v := some (aI (uj.gList.length : Int)) }, {}, {}, { re := some (.bool true) }, {}, {}, {}, {}, {}, {}, {}, {}, { v := some (.vptr (GSign.q u3n)) }, {}, {}, {}, {}, {}, { re := some (.bool true) }, {}, {}, { re := some (.bool true) }] [] [6] [1000000] [] ⟨[tB 6 true], [(1000000, .cells (GL06Read.k2 uj) (GL06Read.h4_9f uj))], []⟩ _ (by kernel_rfl) (fun X => by kernel_rfl) (.cons (congrArg AV.bool h236) (.cons (len_obl GSign.c uj.gList) (.cons (congrArg AV.bool h237) (.cons (at_obl (c := GSign.c) (GSign.c_eq u3n) GSign.c_len h238) (.cons (len_ok 1 (GSign.q u3n)) (.cons (congrArg AV.bool h239) (.cons (congrArg AV.bool h240) .nil))))))) ?_
          obtain rfl := Option.some.inj h; exact Wc.ret dn
        · obtain ⟨u4m, h241, h⟩ := obind h
          refine Wc.draw hmix [{}, {}, {}, {}, {}, { re := some (.bool true) }, {}, {}, {}, {}, {}, {}, {}, {}, { v := some (aI (uj.gList.length : Int)) }, {}, {}, { re := some (.bool true) }, {}, {}, {}, {}, {}, {}, {}, {}, { v := some (.vptr (GSign.q u3n)) }, {}, {}, {}, {}, {}, { re := some (.bool true) }, {}, {}, { re := some (.bool false) }, {}, {}, {}, {}, {}, {}, {}, {}, { v := some (.vptr (GSign.q u4m)) }] [] [6] [1000000] [] ⟨[tB 6 (sEq u4m.gText u66)], [(1000000, .cells (GL06Read.k2 uj) (GL06Read.h4_9f uj))], []⟩ _ (by kernel_rfl) (fun X => by kernel_rfl) (.cons (congrArg AV.bool h236) (.cons (len_obl GSign.c uj.gList) (.cons (congrArg AV.bool h237) (.cons (at_obl (c := GSign.c) (GSign.c_eq u3n) GSign.c_len h238) (.cons (len_ok 1 (GSign.q u3n)) (.cons (congrArg AV.bool h239) (.cons (congrArg AV.bool h240) (.cons (at_obl (c := GSign.c) (GSign.c_eq u4m) GSign.c_len h241) (.cons (len_ok 1 [.str u4m.gText, aI u4m.gNum, aI u4m.gAt, .bool u4m.gNear]) .nil))))))))) ?_
          obtain rfl := Option.some.inj h; exact Wc.ret dn
      · refine Wc.draw hmix [{}, {}, {}, {}, {}, { re := some (.bool true) }, {}, {}, {}, {}, {}, {}, {}, {}, { v := some (aI (uj.gList.length : Int)) }, {}, {}, { re := some (.bool true) }, {}, {}, {}, {}, {}, {}, {}, {}, { v := some (.vptr (GSign.q u3n)) }, {}, {}, {}, {}, {}, { re := some (.bool false) }] [] [6] [1000000] [] ⟨[tB 6 false], [(1000000, .cells (GL06Read.k2 uj) (GL06Read.h4_9f uj))], []⟩ _ (by kernel_rfl) (fun X => by kernel_rfl) (.cons (congrArg AV.bool h236) (.cons (len_obl GSign.c uj.gList) (.cons (congrArg AV.bool h237) (.cons (at_obl (c := GSign.c) (GSign.c_eq u3n) GSign.c_len h238) (.cons (len_ok 1 (GSign.q u3n)) (.cons (congrArg AV.bool h239) .nil)))))) ?_
        obtain rfl := Option.some.inj h; exact Wc.ret dn
    · refine Wc.draw hmix [{}, {}, {}, {}, {}, { re := some (.bool true) }, {}, {}, {}, {}, {}, {}, {}, {}, { v := some (aI (uj.gList.length : Int)) }, {}, {}, { re := some (.bool false) }] [] [6] [1000000] [] ⟨[tB 6 false], [(1000000, .cells (GL06Read.k2 uj) (GL06Read.h4_9f uj))], []⟩ _ (by kernel_rfl) (fun X => by kernel_rfl) (.cons (congrArg AV.bool h236) (.cons (len_obl GSign.c uj.gList) (.cons (congrArg AV.bool h237) .nil))) ?_
      obtain rfl := Option.some.inj h; exact Wc.ret dn
  · refine Wc.draw hmix [{}, {}, {}, {}, {}, { re := some (.bool false) }] [] [6] [1000000] [] ⟨[tB 6 false], [(1000000, .cells (GL06Read.k2 uj) (GL06Read.h4_9f uj))], []⟩ _ (by kernel_rfl) (fun X => by kernel_rfl) (.cons (congrArg AV.bool h236) .nil) ?_
    obtain rfl := Option.some.inj h; exact Wc.ret dn

def pspec_l03Num (k : Nat) (u7j : Int) : Option GTerm :=
  some (GTerm.mk 3 (bs []) u7j [])
theorem cspec_l03Num {k : Nat} {u7j : Int} {r : GTerm} (h : pspec_l03Num k u7j = some r) : FnO Try.prog 124 [.v (aI u7j) []] (.v (.agg (GTerm.q r)) [(3, .app 41)]) [] := by
  refine FnO.o2 Try.func124 (rfl : Try.f124.body = some _) ?_
  intro w0 X0 Fin pv0 pb gt
  unfold pspec_l03Num at h
  apply Wc.seq
  refine Wc.r0 ⟨[tI 0 u7j, tP 2 2], [(2, .cells GTerm.z [(3, .app 41)])], []⟩ ?_
  apply Wc.seq
  refine Wc.r1 [{}, {}, { tk := [4] }] ⟨[tP 2 2], [(2, .cells [aI 3, .str (bs []), aI u7j, .sl (List.map GTerm.c [])] [(3, .app 41)])], []⟩ ?_
  obtain rfl := Option.some.inj h; exact Wc.ret dn

def pspec_l03Atom (k : Nat) (u7k : ByteArray) : Option GTerm :=
  some (GTerm.mk 2 u7k 0 [])
theorem cspec_l03Atom {k : Nat} {u7k : ByteArray} {r : GTerm} (h : pspec_l03Atom k u7k = some r) : FnO Try.prog 65 [.v (.str u7k) []] (.v (.agg (GTerm.q r)) [(3, .app 41)]) [] := by
  refine FnO.o2 Try.func65 (rfl : Try.f65.body = some _) ?_
  intro w0 X0 Fin pv0 pb gt
  unfold pspec_l03Atom at h
  apply Wc.seq
  refine Wc.r0 ⟨[tS 0 u7k, tP 2 2], [(2, .cells GTerm.z [(3, .app 41)])], []⟩ ?_
  apply Wc.seq
  refine Wc.r1 [{}, {}, { tk := [4] }] ⟨[tP 2 2], [(2, .cells [aI 2, .str u7k, aI 0, .sl (List.map GTerm.c [])] [(3, .app 41)])], []⟩ ?_
  obtain rfl := Option.some.inj h; exact Wc.ret dn

def pspec_InfixOf_J3 (k : Nat) (u4 : ByteArray) (ua3 : Bool) : Option (GOp × Bool) :=
  if ua3 = true then
    some (GOp.mk u4 500 500 499, true)
  else
    if (sEq u4 (bs [42])) = true then
      if (sEq u4 (bs [42])) = true then
        some (GOp.mk u4 400 400 399, true)
      else
        some (GOp.mk (bs []) 0 0 0, false)
    else
      if (sEq u4 (bs [47, 47])) = true then
        some (GOp.mk u4 400 400 399, true)
      else
        some (GOp.mk (bs []) 0 0 0, false)
def pspec_InfixOf_J2 (k : Nat) (u4 : ByteArray) (ua4 : Bool) : Option (GOp × Bool) :=
  if ua4 = true then
    some (GOp.mk u4 700 699 699, true)
  else
    if (sEq u4 (bs [43])) = true then
      pspec_InfixOf_J3 k u4 (sEq u4 (bs [43]))
    else
      pspec_InfixOf_J3 k u4 (sEq u4 (bs [45]))
def pspec_InfixOf_J1 (k : Nat) (u4 : ByteArray) (ua5 : Bool) : Option (GOp × Bool) :=
  if ua5 = true then
    some (GOp.mk u4 1200 1199 1199, true)
  else
    if (sEq u4 (bs [59])) = true then
      some (GOp.mk u4 1100 1099 1100, true)
    else
      if (sEq u4 (bs [45, 62])) = true then
        some (GOp.mk u4 1050 1049 1050, true)
      else
        if (sEq u4 (bs [44])) = true then
          some (GOp.mk u4 1000 999 1000, true)
        else
          if (sEq u4 (bs [61])) = true then
            pspec_InfixOf_J2 k u4 (sEq u4 (bs [61]))
          else
            if (sEq u4 (bs [92, 61])) = true then
              pspec_InfixOf_J2 k u4 (sEq u4 (bs [92, 61]))
            else
              if (sEq u4 (bs [61, 61])) = true then
                pspec_InfixOf_J2 k u4 (sEq u4 (bs [61, 61]))
              else
                if (sEq u4 (bs [105, 115])) = true then
                  pspec_InfixOf_J2 k u4 (sEq u4 (bs [105, 115]))
                else
                  if (sEq u4 (bs [60])) = true then
                    pspec_InfixOf_J2 k u4 (sEq u4 (bs [60]))
                  else
                    pspec_InfixOf_J2 k u4 (sEq u4 (bs [61, 58, 61]))
def pspec_InfixOf (k : Nat) (u4 : ByteArray) : Option (GOp × Bool) :=
  if (sEq u4 (bs [58, 45])) = true then
    pspec_InfixOf_J1 k u4 (sEq u4 (bs [58, 45]))
  else
    pspec_InfixOf_J1 k u4 (sEq u4 (bs [45, 45, 62]))
set_option maxHeartbeats 4000000 in
theorem cspec_InfixOf {k : Nat} {u4 : ByteArray} {r : GOp × Bool} (h : pspec_InfixOf k u4 = some r) : FnO Try.prog 153 [.v (.str u4) []] (.v (.tup [.agg (GOp.q r.1), .bool r.2]) []) [] := by
  refine FnO.o2 Try.func153 (rfl : Try.f153.body = some _) ?_
  intro w0 X0 Fin pv0 pb gt
  unfold pspec_InfixOf at h
  apply Wc.seq
  refine Wc.r0 ⟨[tS 0 u4, tP 2 2], [bC 2 GOp.z], []⟩ ?_
  apply Wc.seq
  apply Wc.seq
  refine Wc.r0 ⟨[tS 0 u4, tP 2 2, tS 4 u4], [bC 2 GOp.z], []⟩ ?_
  refine Wc.block ?_
  refine Wc.seqJ (fun st => ∃ (ua5 : Bool), st = ⟨[tS 0 u4, tP 2 2, tS 4 u4, tB 5 ua5], [bC 2 GOp.z], []⟩ ∧ pspec_InfixOf_J1 k u4 ua5 = some r) ?_ ?_
  · apply Wc.seq
    refine Wc.r0 ⟨[tS 0 u4, tP 2 2, tS 4 u4, tB 5 (sEq u4 (bs [58, 45]))], [bC 2 GOp.z], []⟩ ?_
    rcases oif h with ⟨h257, h⟩ | ⟨h257, h⟩
    · refine Wc.cT h257 ?_
      refine Wc.skip ?_
      exact ⟨_, rfl, h⟩
    · refine Wc.cF h257 ?_
      refine Wc.r0 ⟨[tS 0 u4, tP 2 2, tS 4 u4, tB 5 (sEq u4 (bs [45, 45, 62]))], [bC 2 GOp.z], []⟩ ?_
      exact ⟨_, rfl, h⟩
  · rintro st ⟨ua5, rfl, h⟩
    rcases oif h with ⟨h242, h⟩ | ⟨h242, h⟩
    · refine Wc.cT h242 ?_
      apply Wc.seq
      refine Wc.r0 ⟨[tP 2 2, tB 3 true], [bC 2 [.str u4, aI 1200, aI 1199, aI 1199]], []⟩ ?_
      obtain rfl := Option.some.inj h; exact Wc.ret dn
    · refine Wc.cF h242 ?_
      apply Wc.seq
      refine Wc.r0 ⟨[tS 0 u4, tP 2 2, tS 4 u4, tB 10 (sEq u4 (bs [59]))], [bC 2 GOp.z], []⟩ ?_
      rcases oif h with ⟨h243, h⟩ | ⟨h243, h⟩
      · refine Wc.cT h243 ?_
        apply Wc.seq
        refine Wc.r0 ⟨[tP 2 2, tB 3 true], [bC 2 [.str u4, aI 1100, aI 1099, aI 1100]], []⟩ ?_
        obtain rfl := Option.some.inj h; exact Wc.ret dn
      · refine Wc.cF h243 ?_
        apply Wc.seq
        refine Wc.r0 ⟨[tS 0 u4, tP 2 2, tS 4 u4, tB 14 (sEq u4 (bs [45, 62]))], [bC 2 GOp.z], []⟩ ?_
        rcases oif h with ⟨h244, h⟩ | ⟨h244, h⟩
        · refine Wc.cT h244 ?_
          apply Wc.seq
          refine Wc.r0 ⟨[tP 2 2, tB 3 true], [bC 2 [.str u4, aI 1050, aI 1049, aI 1050]], []⟩ ?_
          obtain rfl := Option.some.inj h; exact Wc.ret dn
        · refine Wc.cF h244 ?_
          apply Wc.seq
          refine Wc.r0 ⟨[tS 0 u4, tP 2 2, tS 4 u4, tB 18 (sEq u4 (bs [44]))], [bC 2 GOp.z], []⟩ ?_
          rcases oif h with ⟨h245, h⟩ | ⟨h245, h⟩
          · refine Wc.cT h245 ?_
            apply Wc.seq
            refine Wc.r0 ⟨[tP 2 2, tB 3 true], [bC 2 [.str u4, aI 1000, aI 999, aI 1000]], []⟩ ?_
            obtain rfl := Option.some.inj h; exact Wc.ret dn
          · refine Wc.cF h245 ?_
            refine Wc.seqJ (fun st => ∃ (ua4 : Bool), st = ⟨[tS 0 u4, tP 2 2, tS 4 u4, tB 22 ua4], [bC 2 GOp.z], []⟩ ∧ pspec_InfixOf_J2 k u4 ua4 = some r) ?_ ?_
            · apply Wc.seq
              refine Wc.r0 ⟨[tS 0 u4, tP 2 2, tS 4 u4, tB 22 (sEq u4 (bs [61]))], [bC 2 GOp.z], []⟩ ?_
              rcases oif h with ⟨h252, h⟩ | ⟨h252, h⟩
              · refine Wc.cT h252 ?_
                refine Wc.skip ?_
                exact ⟨_, rfl, h⟩
              · refine Wc.cF h252 ?_
                apply Wc.seq
                refine Wc.r0 ⟨[tS 0 u4, tP 2 2, tS 4 u4, tB 22 (sEq u4 (bs [92, 61]))], [bC 2 GOp.z], []⟩ ?_
                rcases oif h with ⟨h253, h⟩ | ⟨h253, h⟩
                · refine Wc.cT h253 ?_
                  refine Wc.skip ?_
                  exact ⟨_, rfl, h⟩
                · refine Wc.cF h253 ?_
                  apply Wc.seq
                  refine Wc.r0 ⟨[tS 0 u4, tP 2 2, tS 4 u4, tB 22 (sEq u4 (bs [61, 61]))], [bC 2 GOp.z], []⟩ ?_
                  rcases oif h with ⟨h254, h⟩ | ⟨h254, h⟩
                  · refine Wc.cT h254 ?_
                    refine Wc.skip ?_
                    exact ⟨_, rfl, h⟩
                  · refine Wc.cF h254 ?_
                    apply Wc.seq
                    refine Wc.r0 ⟨[tS 0 u4, tP 2 2, tS 4 u4, tB 22 (sEq u4 (bs [105, 115]))], [bC 2 GOp.z], []⟩ ?_
                    rcases oif h with ⟨h255, h⟩ | ⟨h255, h⟩
                    · refine Wc.cT h255 ?_
                      refine Wc.skip ?_
                      exact ⟨_, rfl, h⟩
                    · refine Wc.cF h255 ?_
                      apply Wc.seq
                      refine Wc.r0 ⟨[tS 0 u4, tP 2 2, tS 4 u4, tB 22 (sEq u4 (bs [60]))], [bC 2 GOp.z], []⟩ ?_
                      rcases oif h with ⟨h256, h⟩ | ⟨h256, h⟩
                      · refine Wc.cT h256 ?_
                        refine Wc.skip ?_
                        exact ⟨_, rfl, h⟩
                      · refine Wc.cF h256 ?_
                        refine Wc.r0 ⟨[tS 0 u4, tP 2 2, tS 4 u4, tB 22 (sEq u4 (bs [61, 58, 61]))], [bC 2 GOp.z], []⟩ ?_
                        exact ⟨_, rfl, h⟩
            · rintro st ⟨ua4, rfl, h⟩
              rcases oif h with ⟨h246, h⟩ | ⟨h246, h⟩
              · refine Wc.cT h246 ?_
                apply Wc.seq
                refine Wc.r0 ⟨[tP 2 2, tB 3 true], [bC 2 [.str u4, aI 700, aI 699, aI 699]], []⟩ ?_
                obtain rfl := Option.some.inj h; exact Wc.ret dn
              · refine Wc.cF h246 ?_
                refine Wc.seqJ (fun st => ∃ (ua3 : Bool), st = ⟨[tS 0 u4, tP 2 2, tS 4 u4, tB 31 ua3], [bC 2 GOp.z], []⟩ ∧ pspec_InfixOf_J3 k u4 ua3 = some r) ?_ ?_
                · apply Wc.seq
                  refine Wc.r0 ⟨[tS 0 u4, tP 2 2, tS 4 u4, tB 31 (sEq u4 (bs [43]))], [bC 2 GOp.z], []⟩ ?_
                  rcases oif h with ⟨h251, h⟩ | ⟨h251, h⟩
                  · refine Wc.cT h251 ?_
                    refine Wc.skip ?_
                    exact ⟨_, rfl, h⟩
                  · refine Wc.cF h251 ?_
                    refine Wc.r0 ⟨[tS 0 u4, tP 2 2, tS 4 u4, tB 31 (sEq u4 (bs [45]))], [bC 2 GOp.z], []⟩ ?_
                    exact ⟨_, rfl, h⟩
                · rintro st ⟨ua3, rfl, h⟩
                  rcases oif h with ⟨h247, h⟩ | ⟨h247, h⟩
                  · refine Wc.cT h247 ?_
                    apply Wc.seq
                    refine Wc.r0 ⟨[tP 2 2, tB 3 true], [bC 2 [.str u4, aI 500, aI 500, aI 499]], []⟩ ?_
                    obtain rfl := Option.some.inj h; exact Wc.ret dn
                  · refine Wc.cF h247 ?_
                    apply Wc.seq
                    apply Wc.seq
                    refine Wc.r0 ⟨[tS 0 u4, tP 2 2, tS 4 u4, tB 36 (sEq u4 (bs [42]))], [bC 2 GOp.z], []⟩ ?_
                    rcases oif h with ⟨h248, h⟩ | ⟨h248, h⟩
                    · refine Wc.cT h248 ?_
                      refine Wc.fx [] ⟨[tS 0 u4, tP 2 2, tB 36 (sEq u4 (bs [42]))], [bC 2 GOp.z], []⟩ ?_
                      refine Wc.skip ?_
                      rcases oif h with ⟨h249, h⟩ | ⟨h249, h⟩
                      · refine Wc.cT h249 ?_
                        apply Wc.seq
                        refine Wc.r0 ⟨[tP 2 2, tB 3 true], [bC 2 [.str u4, aI 400, aI 400, aI 399]], []⟩ ?_
                        obtain rfl := Option.some.inj h; exact Wc.ret dn
                      · refine Wc.cF h249 ?_
                        refine Wc.fx [] ⟨[tP 2 2], [bC 2 GOp.z], []⟩ ?_
                        refine Wc.skip ?_
                        apply Wc.seq
                        refine Wc.r0 ⟨[tP 2 2, tB 3 false], [bC 2 GOp.z], []⟩ ?_
                        obtain rfl := Option.some.inj h; exact Wc.ret dn
                    · refine Wc.cF h248 ?_
                      refine Wc.r0 ⟨[tS 0 u4, tP 2 2, tB 36 (sEq u4 (bs [47, 47]))], [bC 2 GOp.z], []⟩ ?_
                      rcases oif h with ⟨h250, h⟩ | ⟨h250, h⟩
                      · refine Wc.cT h250 ?_
                        apply Wc.seq
                        refine Wc.r0 ⟨[tP 2 2, tB 3 true], [bC 2 [.str u4, aI 400, aI 400, aI 399]], []⟩ ?_
                        obtain rfl := Option.some.inj h; exact Wc.ret dn
                      · refine Wc.cF h250 ?_
                        refine Wc.fx [] ⟨[tP 2 2], [bC 2 GOp.z], []⟩ ?_
                        refine Wc.skip ?_
                        apply Wc.seq
                        refine Wc.r0 ⟨[tP 2 2, tB 3 false], [bC 2 GOp.z], []⟩ ?_
                        obtain rfl := Option.some.inj h; exact Wc.ret dn

def pspec_l06Read_mark (k : Nat) (u2u : GL06Read) (ua6 : ByteArray) : Option (GL06Read × Bool) :=
  (pspec_l06Read_is k u2u 4 ua6).bind fun v7 =>
  if v7.2 = true then
    some (GL06Read.mk v7.1.gList (wr.i64 (v7.1.gAt + 1)) v7.1.gBad v7.1.gDeep v7.1.gNames, true)
  else
    some (v7.1, false)
theorem cspec_l06Read_mark {k : Nat} {u2u : GL06Read} {ua6 : ByteArray} {r : GL06Read × Bool} (h : pspec_l06Read_mark k u2u ua6 = some r) : FnO Try.prog 149 [.p (GL06Read.k2 u2u) (GL06Read.h4_9f u2u), .v (.str ua6) []] (.v (.bool r.2) []) [(0, .p (GL06Read.k2 r.1) (GL06Read.h4_9f r.1))] := by
  refine FnO.o2 Try.func149 (rfl : Try.f149.body = some _) ?_
  intro w0 X0 Fin pv0 pb gt
  unfold pspec_l06Read_mark at h
  apply Wc.seq
  refine Wc.r0 ⟨[tP 0 1000000, tS 1 ua6], [(1000000, .cells (GL06Read.k2 u2u) (GL06Read.h4_9f u2u))], []⟩ ?_
  apply Wc.seq
  apply Wc.seq
  obtain ⟨v7, h258, h⟩ := obind h
  refine Wc.r2 [{}, {}, { r := some (.v (.bool v7.2) []), outs := [(0, .p (GL06Read.k2 v7.1) (GL06Read.h4_9f v7.1))] }] ⟨[tP 0 1000000, tB 7 v7.2], [(1000000, .cells (GL06Read.k2 v7.1) (GL06Read.h4_9f v7.1))], []⟩ (.cons (cspec_l06Read_is h258) .nil) ?_
  rcases oif h with ⟨h259, h⟩ | ⟨h259, h⟩
  · refine Wc.cT h259 ?_
    apply Wc.seq
    refine Wc.r0 ⟨[], [(1000000, .cells [.sl (List.map GSign.c v7.1.gList), aI (wr.i64 (v7.1.gAt + 1)), .bool v7.1.gBad, aI v7.1.gDeep, .slx] (GL06Read.h4_9f v7.1))], []⟩ ?_
    apply Wc.seq
    refine Wc.r0 ⟨[tB 4 true], [(1000000, .cells [.sl (List.map GSign.c v7.1.gList), aI (wr.i64 (v7.1.gAt + 1)), .bool v7.1.gBad, aI v7.1.gDeep, .slx] (GL06Read.h4_9f v7.1))], []⟩ ?_
    obtain rfl := Option.some.inj h; exact Wc.ret dn
  · refine Wc.cF h259 ?_
    refine Wc.fx [] ⟨[], [(1000000, .cells (GL06Read.k2 v7.1) (GL06Read.h4_9f v7.1))], []⟩ ?_
    refine Wc.skip ?_
    apply Wc.seq
    refine Wc.r0 ⟨[tB 4 false], [(1000000, .cells (GL06Read.k2 v7.1) (GL06Read.h4_9f v7.1))], []⟩ ?_
    obtain rfl := Option.some.inj h; exact Wc.ret dn

def pspec_l06Read_wants (k : Nat) (u5b : GL06Read) (ud5 : ByteArray) : Option GL06Read :=
  (pspec_l06Read_mark k u5b ud5).bind fun z0 =>
  if (!z0.2) = true then
    some (GL06Read.mk z0.1.gList z0.1.gAt true z0.1.gDeep z0.1.gNames)
  else
    some z0.1
theorem cspec_l06Read_wants {k : Nat} {u5b : GL06Read} {ud5 : ByteArray} {r : GL06Read} (h : pspec_l06Read_wants k u5b ud5 = some r) : FnO Try.prog 159 [.p (GL06Read.k2 u5b) (GL06Read.h4_9f u5b), .v (.str ud5) []] (.v (.tup []) []) [(0, .p (GL06Read.k2 r) (GL06Read.h4_9f r))] := by
  refine FnO.o2 Try.func159 (rfl : Try.f159.body = some _) ?_
  intro w0 X0 Fin pv0 pb gt
  unfold pspec_l06Read_wants at h
  apply Wc.seq
  obtain ⟨z0, h260, h⟩ := obind h
  refine Wc.r2 [{}, {}, { r := some (.v (.bool z0.2) []), outs := [(0, .p (GL06Read.k2 z0.1) (GL06Read.h4_9f z0.1))] }] ⟨[tP 0 1000000, tB 7 (!z0.2)], [(1000000, .cells (GL06Read.k2 z0.1) (GL06Read.h4_9f z0.1))], []⟩ (.cons (cspec_l06Read_mark h260) .nil) ?_
  rcases oif h with ⟨h261, h⟩ | ⟨h261, h⟩
  · refine Wc.cT h261 ?_
    refine Wc.r0 ⟨[], [(1000000, .cells [.sl (List.map GSign.c z0.1.gList), aI z0.1.gAt, .bool true, aI z0.1.gDeep, .slx] (GL06Read.h4_9f z0.1))], []⟩ ?_
    obtain rfl := Option.some.inj h
    exact ⟨(by first | exact .inl rfl | exact .inr rfl), by kernel_rfl, by kernel_rfl⟩
  · refine Wc.cF h261 ?_
    refine Wc.fx [] ⟨[], [(1000000, .cells (GL06Read.k2 z0.1) (GL06Read.h4_9f z0.1))], []⟩ ?_
    refine Wc.skip ?_
    obtain rfl := Option.some.inj h
    exact ⟨(by first | exact .inl rfl | exact .inr rfl), by kernel_rfl, by kernel_rfl⟩

def pspec_l06Read_near (k : Nat) (v0 : GL06Read) : Option (GL06Read × Bool) :=
  if (decide ((wr.i64 (v0.gAt + 1)) < (v0.gList.length : Int))) = true then
    (at' v0.gList (wr.i64 (v0.gAt + 1))).bind fun u5c =>
    if (u5c.gKind == 3) = true then
      (at' v0.gList (wr.i64 (v0.gAt + 1))).bind fun u67 =>
      (at' v0.gList v0.gAt).bind fun u68 =>
      some (v0, (u67.gAt == (wr.i64 (u68.gAt + 1))))
    else
      some (v0, false)
  else
    some (v0, false)
theorem cspec_l06Read_near {k : Nat} {v0 : GL06Read} {r : GL06Read × Bool} (h : pspec_l06Read_near k v0 = some r) : FnO Try.prog 157 [.p (GL06Read.k2 v0) (GL06Read.h4_9f v0)] (.v (.bool r.2) []) [(0, .p (GL06Read.k2 r.1) (GL06Read.h4_9f r.1))] := by
  refine FnO.o2 Try.func157 (rfl : Try.f157.body = some _) ?_
  intro w0 X0 Fin pv0 pb gt
  unfold pspec_l06Read_near at h
  apply Wc.seq
  refine Wc.r0 ⟨[tP 0 1000000], [(1000000, .cells (GL06Read.k2 v0) (GL06Read.h4_9f v0))], []⟩ ?_
  apply Wc.seq
  rcases oif h with ⟨h262, h⟩ | ⟨h262, h⟩
  · obtain ⟨u5c, h263, h⟩ := obind h
    rcases oif h with ⟨h264, h⟩ | ⟨h264, h⟩
    · obtain ⟨u67, h265, h⟩ := obind h
      obtain ⟨u68, h266, h⟩ := obind h
      refine Wc.draw hmix [{}, {}, {}, {}, {}, {}, {}, {}, {}, { v := some (aI (v0.gList.length : Int)) }, {}, { re := some (.bool true) }, {}, {}, {}, {}, {}, {}, {}, {}, {}, { v := some (.vptr (GSign.q u5c)) }, {}, {}, {}, {}, { re := some (.bool true) }, {}, {}, {}, {}, {}, {}, {}, {}, {}, { v := some (.vptr (GSign.q u67)) }, {}, {}, {}, {}, {}, {}, {}, {}, {}, {}, { v := some (.vptr (GSign.q u68)) }] [] [2] [1000000] [] ⟨[tB 2 (u67.gAt == (wr.i64 (u68.gAt + 1)))], [(1000000, .cells (GL06Read.k2 v0) (GL06Read.h4_9f v0))], []⟩ _ (by kernel_rfl) (fun X => by kernel_rfl) (.cons (len_obl GSign.c v0.gList) (.cons (congrArg AV.bool h262) (.cons (at_obl (c := GSign.c) (GSign.c_eq u5c) GSign.c_len h263) (.cons (len_ok 1 (GSign.q u5c)) (.cons (congrArg AV.bool h264) (.cons (at_obl (c := GSign.c) (GSign.c_eq u67) GSign.c_len h265) (.cons (len_ok 1 [aI u67.gAt, .bool u67.gNear]) (.cons (at_obl (c := GSign.c) (GSign.c_eq u68) GSign.c_len h266) (.cons (len_ok 1 [aI u68.gAt, .bool u68.gNear]) .nil))))))))) ?_
      obtain rfl := Option.some.inj h; exact Wc.ret dn
    · refine Wc.draw hmix [{}, {}, {}, {}, {}, {}, {}, {}, {}, { v := some (aI (v0.gList.length : Int)) }, {}, { re := some (.bool true) }, {}, {}, {}, {}, {}, {}, {}, {}, {}, { v := some (.vptr (GSign.q u5c)) }, {}, {}, {}, {}, { re := some (.bool false) }] [] [2] [1000000] [] ⟨[tB 2 false], [(1000000, .cells (GL06Read.k2 v0) (GL06Read.h4_9f v0))], []⟩ _ (by kernel_rfl) (fun X => by kernel_rfl) (.cons (len_obl GSign.c v0.gList) (.cons (congrArg AV.bool h262) (.cons (at_obl (c := GSign.c) (GSign.c_eq u5c) GSign.c_len h263) (.cons (len_ok 1 (GSign.q u5c)) (.cons (congrArg AV.bool h264) .nil))))) ?_
      obtain rfl := Option.some.inj h; exact Wc.ret dn
  · refine Wc.draw hmix [{}, {}, {}, {}, {}, {}, {}, {}, {}, { v := some (aI (v0.gList.length : Int)) }, {}, { re := some (.bool false) }] [] [2] [1000000] [] ⟨[tB 2 false], [(1000000, .cells (GL06Read.k2 v0) (GL06Read.h4_9f v0))], []⟩ _ (by kernel_rfl) (fun X => by kernel_rfl) (.cons (len_obl GSign.c v0.gList) (.cons (congrArg AV.bool h262) .nil)) ?_
    obtain rfl := Option.some.inj h; exact Wc.ret dn

def pspec_PrefixOf (k : Nat) (zw : ByteArray) : Option (GOp × Bool) :=
  if (sEq zw (bs [58, 45])) = true then
    some (GOp.mk zw 1200 0 1199, true)
  else
    if (sEq zw (bs [92, 43])) = true then
      some (GOp.mk zw 900 0 900, true)
    else
      if (sEq zw (bs [45])) = true then
        some (GOp.mk zw 200 0 200, true)
      else
        some (GOp.mk (bs []) 0 0 0, false)
theorem cspec_PrefixOf {k : Nat} {zw : ByteArray} {r : GOp × Bool} (h : pspec_PrefixOf k zw = some r) : FnO Try.prog 158 [.v (.str zw) []] (.v (.tup [.agg (GOp.q r.1), .bool r.2]) []) [] := by
  refine FnO.o2 Try.func158 (rfl : Try.f158.body = some _) ?_
  intro w0 X0 Fin pv0 pb gt
  unfold pspec_PrefixOf at h
  apply Wc.seq
  refine Wc.r0 ⟨[tS 0 zw, tP 2 2], [bC 2 GOp.z], []⟩ ?_
  apply Wc.seq
  apply Wc.seq
  refine Wc.r0 ⟨[tS 0 zw, tP 2 2, tS 4 zw], [bC 2 GOp.z], []⟩ ?_
  refine Wc.block ?_
  apply Wc.seq
  refine Wc.r0 ⟨[tS 0 zw, tP 2 2, tS 4 zw, tB 5 (sEq zw (bs [58, 45]))], [bC 2 GOp.z], []⟩ ?_
  rcases oif h with ⟨h267, h⟩ | ⟨h267, h⟩
  · refine Wc.cT h267 ?_
    apply Wc.seq
    refine Wc.r0 ⟨[tP 2 2, tB 3 true], [bC 2 [.str zw, aI 1200, aI 0, aI 1199]], []⟩ ?_
    obtain rfl := Option.some.inj h; exact Wc.ret dn
  · refine Wc.cF h267 ?_
    apply Wc.seq
    refine Wc.r0 ⟨[tS 0 zw, tP 2 2, tS 4 zw, tB 9 (sEq zw (bs [92, 43]))], [bC 2 GOp.z], []⟩ ?_
    rcases oif h with ⟨h268, h⟩ | ⟨h268, h⟩
    · refine Wc.cT h268 ?_
      apply Wc.seq
      refine Wc.r0 ⟨[tP 2 2, tB 3 true], [bC 2 [.str zw, aI 900, aI 0, aI 900]], []⟩ ?_
      obtain rfl := Option.some.inj h; exact Wc.ret dn
    · refine Wc.cF h268 ?_
      apply Wc.seq
      refine Wc.r0 ⟨[tS 0 zw, tP 2 2, tB 13 (sEq zw (bs [45]))], [bC 2 GOp.z], []⟩ ?_
      rcases oif h with ⟨h269, h⟩ | ⟨h269, h⟩
      · refine Wc.cT h269 ?_
        apply Wc.seq
        refine Wc.r0 ⟨[tP 2 2, tB 3 true], [bC 2 [.str zw, aI 200, aI 0, aI 200]], []⟩ ?_
        obtain rfl := Option.some.inj h; exact Wc.ret dn
      · refine Wc.cF h269 ?_
        refine Wc.fx [] ⟨[tP 2 2], [bC 2 GOp.z], []⟩ ?_
        refine Wc.skip ?_
        apply Wc.seq
        refine Wc.r0 ⟨[tP 2 2, tB 3 false], [bC 2 GOp.z], []⟩ ?_
        obtain rfl := Option.some.inj h; exact Wc.ret dn

def pspec_l03Var (k : Nat) (u7l : Int) : Option GTerm :=
  some (GTerm.mk 1 (bs []) u7l [])
theorem cspec_l03Var {k : Nat} {u7l : Int} {r : GTerm} (h : pspec_l03Var k u7l = some r) : FnO Try.prog 96 [.v (aI u7l) []] (.v (.agg (GTerm.q r)) [(3, .app 41)]) [] := by
  refine FnO.o2 Try.func96 (rfl : Try.f96.body = some _) ?_
  intro w0 X0 Fin pv0 pb gt
  unfold pspec_l03Var at h
  apply Wc.seq
  refine Wc.r0 ⟨[tI 0 u7l, tP 2 2], [(2, .cells GTerm.z [(3, .app 41)])], []⟩ ?_
  apply Wc.seq
  refine Wc.r1 [{}, {}, { tk := [4] }] ⟨[tP 2 2], [(2, .cells [aI 1, .str (bs []), aI u7l, .sl (List.map GTerm.c [])] [(3, .app 41)])], []⟩ ?_
  obtain rfl := Option.some.inj h; exact Wc.ret dn

def pspec_l06Read_variable_J1 (k : Nat) (u5 : GL06Read) (v3 : ByteArray) : Option (GL06Read × GTerm) :=
  if u5.gNames.length + [v3].length ≤ 1073741824 then
    (pspec_l03Var k (wr.i64 (((u5.gNames ++ [v3]).length : Int) - 1))).bind fun ud6 =>
    some (GL06Read.mk u5.gList u5.gAt u5.gBad u5.gDeep (u5.gNames ++ [v3]), ud6)
  else none
def pspec_l06Read_variable_L2 (k : Nat) (u5 : GL06Read) (v3 : ByteArray) : Nat → Int → Option (Out (GL06Read × GTerm) Unit)
  | 0, _ => none
  | m + 1, u2g =>
    if (decide (u2g < (u5.gNames.length : Int))) = true then
      (at' u5.gNames u2g).bind fun ua7 =>
      if (sEq ua7 v3) = true then
        (pspec_l03Var k u2g).bind fun ud7 =>
        some (.ret (u5, ud7))
      else
        pspec_l06Read_variable_L2 k u5 v3 m (wr.i64 (u2g + 1))
    else
      some (.done ())
def pspec_l06Read_variable (k : Nat) (u5 : GL06Read) (v3 : ByteArray) : Option (GL06Read × GTerm) :=
  if (!(sEq v3 (bs [95]))) = true then
    (pspec_l06Read_variable_L2 k u5 v3 k 0).bind fun out2 => match out2 with
    | .ret r => some r
    | .done () =>
      pspec_l06Read_variable_J1 k u5 v3
  else
    pspec_l06Read_variable_J1 k u5 v3
theorem cspec_l06Read_variable {k : Nat} {u5 : GL06Read} {v3 : ByteArray} {r : GL06Read × GTerm} (h : pspec_l06Read_variable k u5 v3 = some r) : FnO Try.prog 152 [.p (GL06Read.k2 u5) (GL06Read.h4_9f u5), .v (.str v3) []] (.v (.agg (GTerm.q r.2)) [(3, .app 41)]) [(0, .p (GL06Read.k2 r.1) (GL06Read.h4_9f r.1))] := by
  refine FnO.o2 Try.func152 (rfl : Try.f152.body = some _) ?_
  intro w0 X0 Fin pv0 pb gt
  unfold pspec_l06Read_variable at h
  apply Wc.seq
  refine Wc.r0 ⟨[tP 0 1000000, tS 1 v3, tP 4 4], [(4, .cells GTerm.z [(3, .app 41)]), (1000000, .cells (GL06Read.k2 u5) (GL06Read.h4_9f u5))], []⟩ ?_
  refine Wc.seqJ (fun st => st = ⟨[tP 0 1000000, tS 1 v3, tP 4 4], [(4, .cells GTerm.z [(3, .app 41)]), (1000000, .cells (GL06Read.k2 u5) (GL06Read.h4_9f u5))], []⟩ ∧ pspec_l06Read_variable_J1 k u5 v3 = some r) ?_ ?_
  · apply Wc.seq
    refine Wc.r0 ⟨[tP 0 1000000, tS 1 v3, tP 4 4, tB 7 (!(sEq v3 (bs [95])))], [(4, .cells GTerm.z [(3, .app 41)]), (1000000, .cells (GL06Read.k2 u5) (GL06Read.h4_9f u5))], []⟩ ?_
    rcases oif h with ⟨h280, h⟩ | ⟨h280, h⟩
    · refine Wc.cT h280 ?_
      apply Wc.seq
      refine Wc.r0 ⟨[tP 0 1000000, tS 1 v3, tP 4 4, tI 5 0], [(4, .cells GTerm.z [(3, .app 41)]), (1000000, .cells (GL06Read.k2 u5) (GL06Read.h4_9f u5))], []⟩ ?_
      obtain ⟨out2, h281, h⟩ := obind h
      refine Wc.lastJ (fun st => out2 = .done () ∧ st = ⟨[tP 0 1000000, tS 1 v3, tP 4 4], [(4, .cells GTerm.z [(3, .app 41)]), (1000000, .cells (GL06Read.k2 u5) (GL06Read.h4_9f u5))], []⟩) ?_ ?_
      · refine Wc.block ?_
        refine Wc.loop (fun m st => ∃ (u2g : Int), st = ⟨[tP 0 1000000, tS 1 v3, tP 4 4, tI 5 u2g], [(4, .cells GTerm.z [(3, .app 41)]), (1000000, .cells (GL06Read.k2 u5) (GL06Read.h4_9f u5))], []⟩ ∧ pspec_l06Read_variable_L2 k u5 v3 m u2g = some out2) ?_ k ⟨_, rfl, h281⟩
        rintro m st ⟨u2g, rfl, h281⟩
        cases m with
        | zero => exact (onone h281).elim
        | succ m =>
          apply Wc.seq
          apply Wc.seq
          refine Wc.r2 [{}, {}, {}, {}, {}, { v := some (aI (u5.gNames.length : Int)) }] ⟨[tP 0 1000000, tS 1 v3, tP 4 4, tI 5 u2g, tB 14 (decide (u2g < (u5.gNames.length : Int)))], [(4, .cells GTerm.z [(3, .app 41)]), (1000000, .cells (GL06Read.k2 u5) (GL06Read.h4_9f u5))], []⟩ (.cons (len_obl cS u5.gNames) .nil) ?_
          rcases oif h281 with ⟨h282, h281⟩ | ⟨h282, h281⟩
          · refine Wc.cT h282 ?_
            refine Wc.fx [] ⟨[tP 0 1000000, tS 1 v3, tP 4 4, tI 5 u2g], [(4, .cells GTerm.z [(3, .app 41)]), (1000000, .cells (GL06Read.k2 u5) (GL06Read.h4_9f u5))], []⟩ ?_
            refine Wc.skip ?_
            apply Wc.seq
            refine Wc.block ?_
            apply Wc.seq
            obtain ⟨ua7, h283, h281⟩ := obind h281
            refine Wc.r2 [{}, {}, {}, {}, {}, {}, { v := some (.str ua7) }] ⟨[tP 0 1000000, tS 1 v3, tP 4 4, tI 5 u2g, tB 25 (sEq ua7 v3)], [(4, .cells GTerm.z [(3, .app 41)]), (1000000, .cells (GL06Read.k2 u5) (GL06Read.h4_9f u5))], []⟩ (.cons (ix_obl (c := cS) cS_len h283) (.cons (el_obl (sz := 1) (off := 0) (s := 1) (ag := false) (v := .str ua7) (c := cS) rfl (at'_spec h283).2 rfl (Nat.le_of_ble_eq_true rfl) rfl) .nil)) ?_
            rcases oif h281 with ⟨h284, h281⟩ | ⟨h284, h281⟩
            · refine Wc.cT h284 ?_
              apply Wc.seq
              obtain ⟨ud7, h285, h281⟩ := obind h281
              refine Wc.r2 [{}, { r := some (.v (.agg (GTerm.q ud7)) [(3, .app 41)]) }, { tk := [27] }] ⟨[tP 4 4], [(4, .cells (GTerm.q ud7) [(3, .app 41)]), (1000000, .cells (GL06Read.k2 u5) (GL06Read.h4_9f u5))], []⟩ (.cons (cspec_l03Var h285) .nil) ?_
              refine Wc.ret ?_
              obtain rfl := Option.some.inj h281
              obtain rfl := Option.some.inj h
              exact ⟨.inl rfl, by kernel_rfl, by kernel_rfl⟩
            · refine Wc.cF h284 ?_
              refine Wc.fx [] ⟨[tP 0 1000000, tS 1 v3, tP 4 4, tI 5 u2g], [(4, .cells GTerm.z [(3, .app 41)]), (1000000, .cells (GL06Read.k2 u5) (GL06Read.h4_9f u5))], []⟩ ?_
              refine Wc.skip ?_
              refine Wc.r0 ⟨[tP 0 1000000, tS 1 v3, tP 4 4, tI 5 (wr.i64 (u2g + 1))], [(4, .cells GTerm.z [(3, .app 41)]), (1000000, .cells (GL06Read.k2 u5) (GL06Read.h4_9f u5))], []⟩ ?_
              exact ⟨_, Nat.lt_succ_self _, _, rfl, h281⟩
          · refine Wc.cF h282 ?_
            refine Wc.fx [] ⟨[tP 0 1000000, tS 1 v3, tP 4 4], [(4, .cells GTerm.z [(3, .app 41)]), (1000000, .cells (GL06Read.k2 u5) (GL06Read.h4_9f u5))], []⟩ ?_
            refine Wc.exit ?_
            obtain rfl := Option.some.inj h281
            exact ⟨rfl, rfl⟩
      · rintro st ⟨rfl, rfl⟩
        exact ⟨rfl, h⟩
    · refine Wc.cF h280 ?_
      refine Wc.fx [] ⟨[tP 0 1000000, tS 1 v3, tP 4 4], [(4, .cells GTerm.z [(3, .app 41)]), (1000000, .cells (GL06Read.k2 u5) (GL06Read.h4_9f u5))], []⟩ ?_
      refine Wc.skip ?_
      exact ⟨rfl, h⟩
  · rintro st ⟨rfl, h⟩
    apply Wc.seq
    obtain ⟨h278, h⟩ := oguard h
    refine Wc.r2 [{}, {}, {}, {}, { md := 1 }, {}, { c := some (List.map cS [v3]) }, { c := some (List.map cS (u5.gNames ++ [v3])), tk := [32], md := 1 }, {}, {}, { tk := [35] }] ⟨[tP 0 1000000, tP 4 4], [(4, .cells GTerm.z [(3, .app 41)]), (1000000, .cells (GL06Read.k2 u5) [(4, .ex 9 false (List.map cS (u5.gNames ++ [v3])))])], []⟩ (.cons (cl_cons (c := cS) (x := v3) rfl (cl_nil cS)) (.cons (app_re2 cS u5.gNames [v3]) (.cons (app_leaf (c := cS) (ys := [v3]) cS_leaf) (.cons (app_obl2 (c := cS) (xs := u5.gNames) (ys := [v3]) cS_len h278) .nil)))) ?_
    apply Wc.seq
    obtain ⟨ud6, h279, h⟩ := obind h
    refine Wc.r2 [{}, {}, {}, {}, { v := some (aI ((u5.gNames ++ [v3]).length : Int)) }, {}, { r := some (.v (.agg (GTerm.q ud6)) [(3, .app 41)]) }, { tk := [44] }] ⟨[tP 4 4], [(4, .cells (GTerm.q ud6) [(3, .app 41)]), (1000000, .cells (GL06Read.k2 u5) [(4, .ex 9 false (List.map cS (u5.gNames ++ [v3])))])], []⟩ (.cons (len_obl cS (u5.gNames ++ [v3])) (.cons (cspec_l03Var h279) .nil)) ?_
    obtain rfl := Option.some.inj h; exact Wc.ret dn

def pspec_l06Read_infix_J1 (k : Nat) (ua8 : Bool) (z5 : GL06Read) : Option (GL06Read × GOp × Bool) :=
  if ua8 = true then
    (at' z5.gList z5.gAt).bind fun u5d =>
    (pspec_InfixOf k u5d.gText).bind fun u69 =>
    some (z5, u69.1, u69.2)
  else
    some (z5, GOp.mk (bs []) 0 0 0, false)
def pspec_l06Read_infix (k : Nat) (u2v : GL06Read) : Option (GL06Read × GOp × Bool) :=
  (pspec_l06Read_is k u2v 4 (bs [44])).bind fun ze =>
  if ze.2 = true then
    (pspec_InfixOf k (bs [44])).bind fun u6a =>
    some (ze.1, u6a.1, u6a.2)
  else
    (pspec_l06Read_is k ze.1 1 (bs [])).bind fun z1 =>
    if z1.2 = true then
      (at' z1.1.gList z1.1.gAt).bind fun u7m =>
      pspec_l06Read_infix_J1 k (!u7m.gNear) z1.1
    else
      pspec_l06Read_infix_J1 k false z1.1
theorem cspec_l06Read_infix {k : Nat} {u2v : GL06Read} {r : GL06Read × GOp × Bool} (h : pspec_l06Read_infix k u2v = some r) : FnO Try.prog 142 [.p (GL06Read.k2 u2v) (GL06Read.h4_9f u2v)] (.v (.tup [.agg (GOp.q r.2.1), .bool r.2.2]) []) [(0, .p (GL06Read.k2 r.1) (GL06Read.h4_9f r.1))] := by
  refine FnO.o2 Try.func142 (rfl : Try.f142.body = some _) ?_
  intro w0 X0 Fin pv0 pb gt
  unfold pspec_l06Read_infix at h
  apply Wc.seq
  refine Wc.r0 ⟨[tP 0 1000000, tP 2 2], [bC 2 GOp.z, (1000000, .cells (GL06Read.k2 u2v) (GL06Read.h4_9f u2v))], []⟩ ?_
  apply Wc.seq
  apply Wc.seq
  obtain ⟨ze, h286, h⟩ := obind h
  refine Wc.r2 [{}, { r := some (.v (.bool ze.2) []), outs := [(0, .p (GL06Read.k2 ze.1) (GL06Read.h4_9f ze.1))] }] ⟨[tP 0 1000000, tP 2 2, tB 5 ze.2], [bC 2 GOp.z, (1000000, .cells (GL06Read.k2 ze.1) (GL06Read.h4_9f ze.1))], []⟩ (.cons (cspec_l06Read_is h286) .nil) ?_
  rcases oif h with ⟨h287, h⟩ | ⟨h287, h⟩
  · refine Wc.cT h287 ?_
    apply Wc.seq
    obtain ⟨u6a, h288, h⟩ := obind h
    refine Wc.r2 [{ r := some (.v (.tup [.agg (GOp.q u6a.1), .bool u6a.2]) []) }] ⟨[tP 2 2, tB 3 u6a.2], [bC 2 (GOp.q u6a.1), (1000000, .cells (GL06Read.k2 ze.1) (GL06Read.h4_9f ze.1))], []⟩ (.cons (cspec_InfixOf h288) .nil) ?_
    obtain rfl := Option.some.inj h; exact Wc.ret dn
  · refine Wc.cF h287 ?_
    refine Wc.fx [] ⟨[tP 0 1000000, tP 2 2], [bC 2 GOp.z, (1000000, .cells (GL06Read.k2 ze.1) (GL06Read.h4_9f ze.1))], []⟩ ?_
    refine Wc.skip ?_
    apply Wc.seq
    refine Wc.seqJ (fun st => ∃ (ua8 : Bool) (z5 : GL06Read), st = ⟨[tP 0 1000000, tP 2 2, tB 24 ua8], [bC 2 GOp.z, (1000000, .cells (GL06Read.k2 z5) (GL06Read.h4_9f z5))], []⟩ ∧ pspec_l06Read_infix_J1 k ua8 z5 = some r) ?_ ?_
    · obtain ⟨z1, h292, h⟩ := obind h
      rcases oif h with ⟨h293, h⟩ | ⟨h293, h⟩
      · obtain ⟨u7m, h294, h⟩ := obind h
        refine Wc.draw hmix [{}, { r := some (.v (.bool z1.2) []), outs := [(0, .p (GL06Read.k2 z1.1) (GL06Read.h4_9f z1.1))] }, { re := some (.bool true) }, {}, {}, {}, {}, {}, {}, {}, {}, { v := some (.vptr (GSign.q u7m)) }] [] [0, 2, 24] [2, 1000000] [] ⟨[tP 0 1000000, tP 2 2, tB 24 (!u7m.gNear)], [bC 2 GOp.z, (1000000, .cells (GL06Read.k2 z1.1) (GL06Read.h4_9f z1.1))], []⟩ _ (by kernel_rfl) (fun X => by kernel_rfl) (.cons (cspec_l06Read_is h292) (.cons (congrArg AV.bool h293) (.cons (at_obl (c := GSign.c) (GSign.c_eq u7m) GSign.c_len h294) (.cons (len_ok 1 [.bool u7m.gNear]) .nil)))) ?_
        exact ⟨_, _, rfl, h⟩
      · refine Wc.draw hmix [{}, { r := some (.v (.bool z1.2) []), outs := [(0, .p (GL06Read.k2 z1.1) (GL06Read.h4_9f z1.1))] }, { re := some (.bool false) }] [] [0, 2, 24] [2, 1000000] [] ⟨[tP 0 1000000, tP 2 2, tB 24 false], [bC 2 GOp.z, (1000000, .cells (GL06Read.k2 z1.1) (GL06Read.h4_9f z1.1))], []⟩ _ (by kernel_rfl) (fun X => by kernel_rfl) (.cons (cspec_l06Read_is h292) (.cons (congrArg AV.bool h293) .nil)) ?_
        exact ⟨_, _, rfl, h⟩
    · rintro st ⟨ua8, z5, rfl, h⟩
      rcases oif h with ⟨h289, h⟩ | ⟨h289, h⟩
      · refine Wc.cT h289 ?_
        apply Wc.seq
        obtain ⟨u5d, h290, h⟩ := obind h
        obtain ⟨u69, h291, h⟩ := obind h
        refine Wc.draw hmix [{}, {}, {}, {}, {}, {}, {}, {}, { v := some (.vptr (GSign.q u5d)) }, {}, {}, { r := some (.v (.tup [.agg (GOp.q u69.1), .bool u69.2]) []) }] [] [2, 3] [2, 1000000] [] ⟨[tP 2 2, tB 3 u69.2], [bC 2 (GOp.q u69.1), (1000000, .cells (GL06Read.k2 z5) (GL06Read.h4_9f z5))], []⟩ _ (by kernel_rfl) (fun X => by kernel_rfl) (.cons (at_obl (c := GSign.c) (GSign.c_eq u5d) GSign.c_len h290) (.cons (len_ok 1 [.str u5d.gText, aI u5d.gNum, aI u5d.gAt, .bool u5d.gNear]) (.cons (cspec_InfixOf h291) .nil))) ?_
        obtain rfl := Option.some.inj h; exact Wc.ret dn
      · refine Wc.cF h289 ?_
        refine Wc.fx [] ⟨[tP 2 2], [bC 2 GOp.z, (1000000, .cells (GL06Read.k2 z5) (GL06Read.h4_9f z5))], []⟩ ?_
        refine Wc.skip ?_
        apply Wc.seq
        refine Wc.r0 ⟨[tP 2 2, tB 3 false], [bC 2 GOp.z, (1000000, .cells (GL06Read.k2 z5) (GL06Read.h4_9f z5))], []⟩ ?_
        obtain rfl := Option.some.inj h; exact Wc.ret dn
end Go.Proofs.Ytkmifafdenblcaa

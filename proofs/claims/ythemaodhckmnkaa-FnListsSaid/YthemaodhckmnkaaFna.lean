/- What the functions do, part 1. -/
import Derived.Test.YthemaodhckmnkaaTy
set_option linter.unusedVariables false
set_option linter.unusedSimpArgs false
namespace Go.Proofs.Ythemaodhckmnkaa
open Go.RowKit Go.Bv
/-- laws.big -/
def plaws_big (k : Nat) (a1_ : List Int) : Option Bool :=
  some (decide ((a1_.length : Int) > 1048576))
theorem claws_big {k : Nat} {a1_ : List Int} {r : Bool} (h : plaws_big k a1_ = some r) : FnO Try.prog 8 [.v (.sl (List.map cI.u8 a1_)) []] (.v (.bool r) []) [] := by
  refine FnO.of Try.func8 (rfl : Try.f8.body = some _) (Nat.le_of_ble_eq_true (by kernel_rfl)) (Nat.le_of_ble_eq_true (by kernel_rfl)) ?_
  intro w0 X0 Fin pv0 pb
  unfold plaws_big at h
  refine Wc.seq ?_
  refine Wc.region [] [] [0] [] [] ⟨[(0, (.v (.sl (List.map cI.u8 a1_)), []))], [], []⟩ _ (by kernel_rfl) .nil ?_
  refine Wc.seq ?_
  refine Wc.region [{}, { v := some (.int .i64 (a1_.length : Int)) }] [] [2] [] [] ⟨[(2, (.v (.bool (decide ((a1_.length : Int) > 1048576))), []))], [], []⟩ _ (by kernel_rfl) (.cons (len_obl cI.u8 a1_) .nil) ?_
  refine Wc.ret ?_
  obtain rfl := Option.some.inj h
  exact ⟨.inl rfl, by kernel_rfl, by kernel_rfl⟩

def pspec_l01New_L1 (k : Nat) (a2_ : List Int) : Nat → Int → Int → Option (Out GL01Cur Int)
  | 0, _, _ => none
  | m + 1, b3_, b4_ =>
    if (decide (b4_ < (a2_.length : Int))) = true then
      if (decide (b4_ < 4000)) = true then
        (at' a2_ b4_).bind fun b6_ =>
        pspec_l01New_L1 k a2_ m (band .i64 (wr.i64 ((wr.i64 ((wr.i64 (b3_ * 131)) + (wr.i64 b6_))) + 7)) 1073741823) (wr.i64 (b4_ + 1))
      else
        some (.done b3_)
    else
      some (.done b3_)
/-- spec.l01New -/
def pspec_l01New (k : Nat) (a2_ : List Int) : Option GL01Cur :=
  (pspec_l01New_L1 k a2_ k (wr.i64 (95101 + (a2_.length : Int))) 0).bind fun out1 => match out1 with
  | .ret r => some r
  | .done b5_ =>
    some (GL01Cur.mk a2_ 0 b5_)
theorem cspec_l01New {k : Nat} {a2_ : List Int} {r : GL01Cur} (h : pspec_l01New k a2_ = some r) : FnO Try.prog 63 [.v (.sl (List.map cI.u8 a2_)) []] (.p [.sl (List.map cI.u8 r.gB), .int .i64 r.gI, .int .i64 r.gH] []) [] := by
  refine FnO.of Try.func63 (rfl : Try.f63.body = some _) (Nat.le_of_ble_eq_true (by kernel_rfl)) (Nat.le_of_ble_eq_true (by kernel_rfl)) ?_
  intro w0 X0 Fin pv0 pb
  unfold pspec_l01New at h
  refine Wc.seq ?_
  refine Wc.region [] [] [0] [] [] ⟨[(0, (.v (.sl (List.map cI.u8 a2_)), []))], [], []⟩ _ (by kernel_rfl) .nil ?_
  refine Wc.seq ?_
  refine Wc.region [{}, { v := some (.int .i64 (a2_.length : Int)) }] [] [0, 3] [] [] ⟨[(0, (.v (.sl (List.map cI.u8 a2_)), [])), (3, (.v (.int .i64 (wr.i64 (95101 + (a2_.length : Int)))), []))], [], []⟩ _ (by kernel_rfl) (.cons (len_obl cI.u8 a2_) .nil) ?_
  refine Wc.seq ?_
  refine Wc.seq ?_
  refine Wc.region [] [] [0, 3, 4] [] [] ⟨[(0, (.v (.sl (List.map cI.u8 a2_)), [])), (3, (.v (.int .i64 (wr.i64 (95101 + (a2_.length : Int)))), [])), (4, (.v (.int .i64 0), []))], [], []⟩ _ (by kernel_rfl) .nil ?_
  obtain ⟨out1, h1, h⟩ := obind h
  refine Wc.lastJ (fun st => ∃ (b5_ : Int), out1 = .done b5_ ∧ st = ⟨[(0, (.v (.sl (List.map cI.u8 a2_)), [])), (3, (.v (.int .i64 b5_), []))], [], []⟩) ?_ ?_
  · refine Wc.block ?_
    refine Wc.loop (fun m st => ∃ (b3_ : Int) (b4_ : Int), st = ⟨[(0, (.v (.sl (List.map cI.u8 a2_)), [])), (3, (.v (.int .i64 b3_), [])), (4, (.v (.int .i64 b4_), []))], [], []⟩ ∧ pspec_l01New_L1 k a2_ m b3_ b4_ = some out1) ?_ k ⟨_, _, rfl, h1⟩
    rintro m st ⟨b3_, b4_, rfl, h1⟩
    cases m with
    | zero => exact (onone h1).elim
    | succ m =>
      refine Wc.seq ?_
      refine Wc.seq ?_
      rcases oif h1 with ⟨h2, h1⟩ | ⟨h2, h1⟩
      · refine Wc.region [{}, {}, { v := some (.int .i64 (a2_.length : Int)) }, {}, { re := some (.bool true) }] [] [0, 3, 4, 15] [] [] ⟨[(0, (.v (.sl (List.map cI.u8 a2_)), [])), (3, (.v (.int .i64 b3_), [])), (4, (.v (.int .i64 b4_), [])), (15, (.v (.bool (decide (b4_ < 4000))), []))], [], []⟩ _ (by kernel_rfl) (.cons (len_obl cI.u8 a2_) (.cons (congrArg AV.bool h2) .nil)) ?_
        rcases oif h1 with ⟨h3, h1⟩ | ⟨h3, h1⟩
        · refine Wc.condT h3 (by kernel_rfl) ?_
          refine Wc.fix (st' := ⟨[(0, (.v (.sl (List.map cI.u8 a2_)), [])), (3, (.v (.int .i64 b3_), [])), (4, (.v (.int .i64 b4_), []))], [], []⟩) [] [0, 3, 4] [] [] (by kernel_rfl) ?_
          refine Wc.skip ?_
          refine Wc.seq ?_
          refine Wc.block ?_
          obtain ⟨b6_, h4, h1⟩ := obind h1
          refine Wc.region [{}, {}, {}, {}, { v := some (.vptr [.int .u8 b6_]) }] [] [0, 3, 4] [] [] ⟨[(0, (.v (.sl (List.map cI.u8 a2_)), [])), (3, (.v (.int .i64 (band .i64 (wr.i64 ((wr.i64 ((wr.i64 (b3_ * 131)) + (wr.i64 b6_))) + 7)) 1073741823)), [])), (4, (.v (.int .i64 b4_), []))], [], []⟩ _ (by kernel_rfl) (.cons (at_obl (c := cI.u8) rfl cI.u8_len h4) (.cons (len_ok 1 [.int .u8 b6_]) .nil)) ?_
          refine Wc.region [] [] [0, 3, 4] [] [] ⟨[(0, (.v (.sl (List.map cI.u8 a2_)), [])), (3, (.v (.int .i64 (band .i64 (wr.i64 ((wr.i64 ((wr.i64 (b3_ * 131)) + (wr.i64 b6_))) + 7)) 1073741823)), [])), (4, (.v (.int .i64 (wr.i64 (b4_ + 1))), []))], [], []⟩ _ (by kernel_rfl) .nil ?_
          exact ⟨_, Nat.lt_succ_self _, _, _, rfl, h1⟩
        · refine Wc.condF h3 (by kernel_rfl) ?_
          refine Wc.fix (st' := ⟨[(0, (.v (.sl (List.map cI.u8 a2_)), [])), (3, (.v (.int .i64 b3_), []))], [], []⟩) [] [0, 3] [] [] (by kernel_rfl) ?_
          refine Wc.exit ?_
          obtain rfl := Option.some.inj h1
          exact ⟨_, rfl, rfl⟩
      · refine Wc.region [{}, {}, { v := some (.int .i64 (a2_.length : Int)) }, {}, { re := some (.bool false) }] [] [0, 3, 4, 15] [] [] ⟨[(0, (.v (.sl (List.map cI.u8 a2_)), [])), (3, (.v (.int .i64 b3_), [])), (4, (.v (.int .i64 b4_), [])), (15, (.v (.bool false), []))], [], []⟩ _ (by kernel_rfl) (.cons (len_obl cI.u8 a2_) (.cons (congrArg AV.bool h2) .nil)) ?_
        refine Wc.condF rfl (by kernel_rfl) ?_
        refine Wc.fix (st' := ⟨[(0, (.v (.sl (List.map cI.u8 a2_)), [])), (3, (.v (.int .i64 b3_), []))], [], []⟩) [] [0, 3] [] [] (by kernel_rfl) ?_
        refine Wc.exit ?_
        obtain rfl := Option.some.inj h1
        exact ⟨_, rfl, rfl⟩
  · rintro st ⟨b5_, rfl, rfl⟩
    refine Wc.seq ?_
    refine Wc.region [] [] [2] [31] [] ⟨[(2, (.ptr 31 0, []))], [(31, .cells [.sl (List.map cI.u8 a2_), .int .i64 0, .int .i64 b5_] [])], []⟩ _ (by kernel_rfl) .nil ?_
    refine Wc.ret ?_
    obtain rfl := Option.some.inj h
    exact ⟨.inl rfl, by kernel_rfl, by kernel_rfl⟩

/-- spec.l01Byte -/
def pspec_l01Byte (k : Nat) (c7_ : GL01Cur) : Option (GL01Cur × Int) :=
  if (decide (c7_.gI < (c7_.gB.length : Int))) = true then
    (at' c7_.gB c7_.gI).bind fun b8_ =>
    some (GL01Cur.mk c7_.gB (wr.i64 (c7_.gI + 1)) (wr.i64 ((wr.i64 (c7_.gH * 6364136223846793005)) + 1442695040888963407)), band .i64 (wr.i64 ((band .i64 (bxor .i64 (bshr .i64 (wr.i64 ((wr.i64 (c7_.gH * 6364136223846793005)) + 1442695040888963407)) 33) (bshr .i64 (wr.i64 ((wr.i64 (c7_.gH * 6364136223846793005)) + 1442695040888963407)) 45)) 255) + (wr.i64 b8_))) 255)
  else
    some (GL01Cur.mk c7_.gB c7_.gI (wr.i64 ((wr.i64 (c7_.gH * 6364136223846793005)) + 1442695040888963407)), band .i64 (bxor .i64 (bshr .i64 (wr.i64 ((wr.i64 (c7_.gH * 6364136223846793005)) + 1442695040888963407)) 33) (bshr .i64 (wr.i64 ((wr.i64 (c7_.gH * 6364136223846793005)) + 1442695040888963407)) 45)) 255)
theorem cspec_l01Byte {k : Nat} {c7_ : GL01Cur} {r : GL01Cur × Int} (h : pspec_l01Byte k c7_ = some r) : FnO Try.prog 83 [.p [.sl (List.map cI.u8 c7_.gB), .int .i64 c7_.gI, .int .i64 c7_.gH] []] (.v (.int .i64 r.2) []) [(0, .p [.sl (List.map cI.u8 r.1.gB), .int .i64 r.1.gI, .int .i64 r.1.gH] [])] := by
  refine FnO.of Try.func83 (rfl : Try.f83.body = some _) (Nat.le_of_ble_eq_true (by kernel_rfl)) (Nat.le_of_ble_eq_true (by kernel_rfl)) ?_
  intro w0 X0 Fin pv0 pb
  unfold pspec_l01Byte at h
  refine Wc.seq ?_
  refine Wc.region [] [] [0] [1000000] [] ⟨[(0, (.ptr 1000000 0, []))], [(1000000, .cells [.sl (List.map cI.u8 c7_.gB), .int .i64 c7_.gI, .int .i64 c7_.gH] [])], []⟩ _ (by kernel_rfl) .nil ?_
  refine Wc.seq ?_
  refine Wc.region [] [] [0] [1000000] [] ⟨[(0, (.ptr 1000000 0, []))], [(1000000, .cells [.sl (List.map cI.u8 c7_.gB), .int .i64 c7_.gI, .int .i64 (wr.i64 ((wr.i64 (c7_.gH * 6364136223846793005)) + 1442695040888963407))] [])], []⟩ _ (by kernel_rfl) .nil ?_
  refine Wc.seq ?_
  refine Wc.draw hmix [] [] [0, 3] [1000000] [] ⟨[(0, (.ptr 1000000 0, [])), (3, (.v (.int .i64 (band .i64 (bxor .i64 (bshr .i64 (wr.i64 ((wr.i64 (c7_.gH * 6364136223846793005)) + 1442695040888963407)) 33) (bshr .i64 (wr.i64 ((wr.i64 (c7_.gH * 6364136223846793005)) + 1442695040888963407)) 45)) 255)), []))], [(1000000, .cells [.sl (List.map cI.u8 c7_.gB), .int .i64 c7_.gI, .int .i64 (wr.i64 ((wr.i64 (c7_.gH * 6364136223846793005)) + 1442695040888963407))] [])], []⟩ _ (by kernel_rfl) (fun X => by kernel_rfl) (.cons (show (0 : Int) ≤ 33 by decide) (.cons (show (0 : Int) ≤ 45 by decide) .nil)) ?_
  refine Wc.seq ?_
  refine Wc.seq ?_
  refine Wc.draw hmix [{}, {}, {}, {}, {}, {}, {}, {}, { v := some (.int .i64 (c7_.gB.length : Int)) }] [] [0, 3, 34] [1000000] [] ⟨[(0, (.ptr 1000000 0, [])), (3, (.v (.int .i64 (band .i64 (bxor .i64 (bshr .i64 (wr.i64 ((wr.i64 (c7_.gH * 6364136223846793005)) + 1442695040888963407)) 33) (bshr .i64 (wr.i64 ((wr.i64 (c7_.gH * 6364136223846793005)) + 1442695040888963407)) 45)) 255)), [])), (34, (.v (.bool (decide (c7_.gI < (c7_.gB.length : Int)))), []))], [(1000000, .cells [.sl (List.map cI.u8 c7_.gB), .int .i64 c7_.gI, .int .i64 (wr.i64 ((wr.i64 (c7_.gH * 6364136223846793005)) + 1442695040888963407))] [])], []⟩ _ (by kernel_rfl) (fun X => by kernel_rfl) (.cons (len_obl cI.u8 c7_.gB) .nil) ?_
  rcases oif h with ⟨h5, h⟩ | ⟨h5, h⟩
  · refine Wc.condT h5 (by kernel_rfl) ?_
    refine Wc.seq ?_
    obtain ⟨b8_, h6, h⟩ := obind h
    refine Wc.draw hmix [{}, {}, {}, {}, {}, {}, {}, {}, {}, { v := some (.vptr [.int .u8 b8_]) }] [] [0, 3] [1000000] [] ⟨[(0, (.ptr 1000000 0, [])), (3, (.v (.int .i64 (band .i64 (wr.i64 ((band .i64 (bxor .i64 (bshr .i64 (wr.i64 ((wr.i64 (c7_.gH * 6364136223846793005)) + 1442695040888963407)) 33) (bshr .i64 (wr.i64 ((wr.i64 (c7_.gH * 6364136223846793005)) + 1442695040888963407)) 45)) 255) + (wr.i64 b8_))) 255)), []))], [(1000000, .cells [.sl (List.map cI.u8 c7_.gB), .int .i64 c7_.gI, .int .i64 (wr.i64 ((wr.i64 (c7_.gH * 6364136223846793005)) + 1442695040888963407))] [])], []⟩ _ (by kernel_rfl) (fun X => by kernel_rfl) (.cons (at_obl (c := cI.u8) rfl cI.u8_len h6) (.cons (len_ok 1 [.int .u8 b8_]) .nil)) ?_
    refine Wc.region [] [] [3] [1000000] [] ⟨[(3, (.v (.int .i64 (band .i64 (wr.i64 ((band .i64 (bxor .i64 (bshr .i64 (wr.i64 ((wr.i64 (c7_.gH * 6364136223846793005)) + 1442695040888963407)) 33) (bshr .i64 (wr.i64 ((wr.i64 (c7_.gH * 6364136223846793005)) + 1442695040888963407)) 45)) 255) + (wr.i64 b8_))) 255)), []))], [(1000000, .cells [.sl (List.map cI.u8 c7_.gB), .int .i64 (wr.i64 (c7_.gI + 1)), .int .i64 (wr.i64 ((wr.i64 (c7_.gH * 6364136223846793005)) + 1442695040888963407))] [])], []⟩ _ (by kernel_rfl) .nil ?_
    refine Wc.seq ?_
    refine Wc.region [] [] [2] [1000000] [] ⟨[(2, (.v (.int .i64 (band .i64 (wr.i64 ((band .i64 (bxor .i64 (bshr .i64 (wr.i64 ((wr.i64 (c7_.gH * 6364136223846793005)) + 1442695040888963407)) 33) (bshr .i64 (wr.i64 ((wr.i64 (c7_.gH * 6364136223846793005)) + 1442695040888963407)) 45)) 255) + (wr.i64 b8_))) 255)), []))], [(1000000, .cells [.sl (List.map cI.u8 c7_.gB), .int .i64 (wr.i64 (c7_.gI + 1)), .int .i64 (wr.i64 ((wr.i64 (c7_.gH * 6364136223846793005)) + 1442695040888963407))] [])], []⟩ _ (by kernel_rfl) .nil ?_
    refine Wc.ret ?_
    obtain rfl := Option.some.inj h
    exact ⟨.inl rfl, by kernel_rfl, by kernel_rfl⟩
  · refine Wc.condF h5 (by kernel_rfl) ?_
    refine Wc.fix (st' := ⟨[(3, (.v (.int .i64 (band .i64 (bxor .i64 (bshr .i64 (wr.i64 ((wr.i64 (c7_.gH * 6364136223846793005)) + 1442695040888963407)) 33) (bshr .i64 (wr.i64 ((wr.i64 (c7_.gH * 6364136223846793005)) + 1442695040888963407)) 45)) 255)), []))], [(1000000, .cells [.sl (List.map cI.u8 c7_.gB), .int .i64 c7_.gI, .int .i64 (wr.i64 ((wr.i64 (c7_.gH * 6364136223846793005)) + 1442695040888963407))] [])], []⟩) [] [3] [1000000] [] (by kernel_rfl) ?_
    refine Wc.skip ?_
    refine Wc.seq ?_
    refine Wc.region [] [] [2] [1000000] [] ⟨[(2, (.v (.int .i64 (band .i64 (bxor .i64 (bshr .i64 (wr.i64 ((wr.i64 (c7_.gH * 6364136223846793005)) + 1442695040888963407)) 33) (bshr .i64 (wr.i64 ((wr.i64 (c7_.gH * 6364136223846793005)) + 1442695040888963407)) 45)) 255)), []))], [(1000000, .cells [.sl (List.map cI.u8 c7_.gB), .int .i64 c7_.gI, .int .i64 (wr.i64 ((wr.i64 (c7_.gH * 6364136223846793005)) + 1442695040888963407))] [])], []⟩ _ (by kernel_rfl) .nil ?_
    refine Wc.ret ?_
    obtain rfl := Option.some.inj h
    exact ⟨.inl rfl, by kernel_rfl, by kernel_rfl⟩

/-- spec.l01Below -/
def pspec_l01Below (k : Nat) (c9_ : GL01Cur) (b10_ : Int) : Option (GL01Cur × Int) :=
  if (decide (b10_ ≤ 0)) = true then
    some (c9_, 0)
  else
    if (decide (b10_ ≤ 256)) = true then
      (pspec_l01Byte k c9_).bind fun d11_ =>
      if (b10_ : Int) ≠ 0 then
        some (d11_.1, Int.tmod d11_.2 b10_)
      else none
    else
      (pspec_l01Byte k c9_).bind fun d12_ =>
      (pspec_l01Byte k d12_.1).bind fun d13_ =>
      (pspec_l01Byte k d13_.1).bind fun d14_ =>
      (pspec_l01Byte k d14_.1).bind fun d15_ =>
      if (b10_ : Int) ≠ 0 then
        some (d15_.1, Int.tmod (wr.i64 ((wr.i64 ((wr.i64 ((wr.i64 (d12_.2 * 16777216)) + (wr.i64 (d13_.2 * 65536)))) + (wr.i64 (d14_.2 * 256)))) + d15_.2)) b10_)
      else none
theorem cspec_l01Below {k : Nat} {c9_ : GL01Cur} {b10_ : Int} {r : GL01Cur × Int} (h : pspec_l01Below k c9_ b10_ = some r) : FnO Try.prog 84 [.p [.sl (List.map cI.u8 c9_.gB), .int .i64 c9_.gI, .int .i64 c9_.gH] [], .v (.int .i64 b10_) []] (.v (.int .i64 r.2) []) [(0, .p [.sl (List.map cI.u8 r.1.gB), .int .i64 r.1.gI, .int .i64 r.1.gH] [])] := by
  refine FnO.of Try.func84 (rfl : Try.f84.body = some _) (Nat.le_of_ble_eq_true (by kernel_rfl)) (Nat.le_of_ble_eq_true (by kernel_rfl)) ?_
  intro w0 X0 Fin pv0 pb
  unfold pspec_l01Below at h
  refine Wc.seq ?_
  refine Wc.region [] [] [0, 1] [1000000] [] ⟨[(0, (.ptr 1000000 0, [])), (1, (.v (.int .i64 b10_), []))], [(1000000, .cells [.sl (List.map cI.u8 c9_.gB), .int .i64 c9_.gI, .int .i64 c9_.gH] [])], []⟩ _ (by kernel_rfl) .nil ?_
  refine Wc.seq ?_
  refine Wc.seq ?_
  refine Wc.region [] [] [0, 1, 10] [1000000] [] ⟨[(0, (.ptr 1000000 0, [])), (1, (.v (.int .i64 b10_), [])), (10, (.v (.bool (decide (b10_ ≤ 0))), []))], [(1000000, .cells [.sl (List.map cI.u8 c9_.gB), .int .i64 c9_.gI, .int .i64 c9_.gH] [])], []⟩ _ (by kernel_rfl) .nil ?_
  rcases oif h with ⟨h7, h⟩ | ⟨h7, h⟩
  · refine Wc.condT h7 (by kernel_rfl) ?_
    refine Wc.seq ?_
    refine Wc.region [] [] [4] [1000000] [] ⟨[(4, (.v (.int .i64 0), []))], [(1000000, .cells [.sl (List.map cI.u8 c9_.gB), .int .i64 c9_.gI, .int .i64 c9_.gH] [])], []⟩ _ (by kernel_rfl) .nil ?_
    refine Wc.ret ?_
    obtain rfl := Option.some.inj h
    exact ⟨.inl rfl, by kernel_rfl, by kernel_rfl⟩
  · refine Wc.condF h7 (by kernel_rfl) ?_
    refine Wc.fix (st' := ⟨[(0, (.ptr 1000000 0, [])), (1, (.v (.int .i64 b10_), []))], [(1000000, .cells [.sl (List.map cI.u8 c9_.gB), .int .i64 c9_.gI, .int .i64 c9_.gH] [])], []⟩) [] [0, 1] [1000000] [] (by kernel_rfl) ?_
    refine Wc.skip ?_
    refine Wc.seq ?_
    refine Wc.seq ?_
    refine Wc.region [] [] [0, 1, 12] [1000000] [] ⟨[(0, (.ptr 1000000 0, [])), (1, (.v (.int .i64 b10_), [])), (12, (.v (.bool (decide (b10_ ≤ 256))), []))], [(1000000, .cells [.sl (List.map cI.u8 c9_.gB), .int .i64 c9_.gI, .int .i64 c9_.gH] [])], []⟩ _ (by kernel_rfl) .nil ?_
    rcases oif h with ⟨h8, h⟩ | ⟨h8, h⟩
    · refine Wc.condT h8 (by kernel_rfl) ?_
      refine Wc.seq ?_
      obtain ⟨d11_, h9, h⟩ := obind h
      obtain ⟨h10, h⟩ := oguard h
      refine Wc.region [{}, { r := some (.v (.int .i64 d11_.2) []), outs := [(0, .p [.sl (List.map cI.u8 d11_.1.gB), .int .i64 d11_.1.gI, .int .i64 d11_.1.gH] [])] }] [] [4] [1000000] [] ⟨[(4, (.v (.int .i64 (Int.tmod d11_.2 b10_)), []))], [(1000000, .cells [.sl (List.map cI.u8 d11_.1.gB), .int .i64 d11_.1.gI, .int .i64 d11_.1.gH] [])], []⟩ _ (by kernel_rfl) (.cons (cspec_l01Byte h9) (.cons h10 .nil)) ?_
      refine Wc.ret ?_
      obtain rfl := Option.some.inj h
      exact ⟨.inl rfl, by kernel_rfl, by kernel_rfl⟩
    · refine Wc.condF h8 (by kernel_rfl) ?_
      refine Wc.fix (st' := ⟨[(0, (.ptr 1000000 0, [])), (1, (.v (.int .i64 b10_), []))], [(1000000, .cells [.sl (List.map cI.u8 c9_.gB), .int .i64 c9_.gI, .int .i64 c9_.gH] [])], []⟩) [] [0, 1] [1000000] [] (by kernel_rfl) ?_
      refine Wc.skip ?_
      refine Wc.seq ?_
      obtain ⟨d12_, h11, h⟩ := obind h
      refine Wc.region [{}, { r := some (.v (.int .i64 d12_.2) []), outs := [(0, .p [.sl (List.map cI.u8 d12_.1.gB), .int .i64 d12_.1.gI, .int .i64 d12_.1.gH] [])] }] [] [0, 1, 5] [1000000] [] ⟨[(0, (.ptr 1000000 0, [])), (1, (.v (.int .i64 b10_), [])), (5, (.v (.int .i64 d12_.2), []))], [(1000000, .cells [.sl (List.map cI.u8 d12_.1.gB), .int .i64 d12_.1.gI, .int .i64 d12_.1.gH] [])], []⟩ _ (by kernel_rfl) (.cons (cspec_l01Byte h11) .nil) ?_
      refine Wc.seq ?_
      obtain ⟨d13_, h12, h⟩ := obind h
      refine Wc.region [{}, { r := some (.v (.int .i64 d13_.2) []), outs := [(0, .p [.sl (List.map cI.u8 d13_.1.gB), .int .i64 d13_.1.gI, .int .i64 d13_.1.gH] [])] }] [] [0, 1, 5, 6] [1000000] [] ⟨[(0, (.ptr 1000000 0, [])), (1, (.v (.int .i64 b10_), [])), (5, (.v (.int .i64 d12_.2), [])), (6, (.v (.int .i64 d13_.2), []))], [(1000000, .cells [.sl (List.map cI.u8 d13_.1.gB), .int .i64 d13_.1.gI, .int .i64 d13_.1.gH] [])], []⟩ _ (by kernel_rfl) (.cons (cspec_l01Byte h12) .nil) ?_
      refine Wc.seq ?_
      obtain ⟨d14_, h13, h⟩ := obind h
      refine Wc.region [{}, { r := some (.v (.int .i64 d14_.2) []), outs := [(0, .p [.sl (List.map cI.u8 d14_.1.gB), .int .i64 d14_.1.gI, .int .i64 d14_.1.gH] [])] }] [] [0, 1, 5, 6, 7] [1000000] [] ⟨[(0, (.ptr 1000000 0, [])), (1, (.v (.int .i64 b10_), [])), (5, (.v (.int .i64 d12_.2), [])), (6, (.v (.int .i64 d13_.2), [])), (7, (.v (.int .i64 d14_.2), []))], [(1000000, .cells [.sl (List.map cI.u8 d14_.1.gB), .int .i64 d14_.1.gI, .int .i64 d14_.1.gH] [])], []⟩ _ (by kernel_rfl) (.cons (cspec_l01Byte h13) .nil) ?_
      refine Wc.seq ?_
      obtain ⟨d15_, h14, h⟩ := obind h
      refine Wc.region [{}, { r := some (.v (.int .i64 d15_.2) []), outs := [(0, .p [.sl (List.map cI.u8 d15_.1.gB), .int .i64 d15_.1.gI, .int .i64 d15_.1.gH] [])] }] [] [1, 5, 6, 7, 8] [1000000] [] ⟨[(1, (.v (.int .i64 b10_), [])), (5, (.v (.int .i64 d12_.2), [])), (6, (.v (.int .i64 d13_.2), [])), (7, (.v (.int .i64 d14_.2), [])), (8, (.v (.int .i64 d15_.2), []))], [(1000000, .cells [.sl (List.map cI.u8 d15_.1.gB), .int .i64 d15_.1.gI, .int .i64 d15_.1.gH] [])], []⟩ _ (by kernel_rfl) (.cons (cspec_l01Byte h14) .nil) ?_
      refine Wc.seq ?_
      obtain ⟨h15, h⟩ := oguard h
      refine Wc.region [] [] [4] [1000000] [] ⟨[(4, (.v (.int .i64 (Int.tmod (wr.i64 ((wr.i64 ((wr.i64 ((wr.i64 (d12_.2 * 16777216)) + (wr.i64 (d13_.2 * 65536)))) + (wr.i64 (d14_.2 * 256)))) + d15_.2)) b10_)), []))], [(1000000, .cells [.sl (List.map cI.u8 d15_.1.gB), .int .i64 d15_.1.gI, .int .i64 d15_.1.gH] [])], []⟩ _ (by kernel_rfl) (.cons h15 .nil) ?_
      refine Wc.ret ?_
      obtain rfl := Option.some.inj h
      exact ⟨.inl rfl, by kernel_rfl, by kernel_rfl⟩

/-- spec.l03Atom -/
def pspec_l03Atom (k : Nat) (e17_ : ByteArray) : Option GTerm :=
  some (GTerm.mk 2 e17_ 0 [])
theorem cspec_l03Atom {k : Nat} {e17_ : ByteArray} {r : GTerm} (h : pspec_l03Atom k e17_ = some r) : FnO Try.prog 95 [.v (.str e17_) []] (.v (.agg [.int .i64 r.gKind, .str r.gName, .int .i64 r.gNum, .sl (List.map GTerm.c r.gKids)]) [(3, .app 41)]) [] := by
  refine FnO.of Try.func95 (rfl : Try.f95.body = some _) (Nat.le_of_ble_eq_true (by kernel_rfl)) (Nat.le_of_ble_eq_true (by kernel_rfl)) ?_
  intro w0 X0 Fin pv0 pb
  unfold pspec_l03Atom at h
  refine Wc.seq ?_
  refine Wc.region [] [] [0, 2] [2] [] ⟨[(0, (.v (.str e17_), [])), (2, (.ptr 2 0, []))], [(2, .cells [.int .i64 0, .str (bs []), .int .i64 0, .sl (List.map GTerm.c [])] [(3, .app 41)])], []⟩ _ (by kernel_rfl) .nil ?_
  refine Wc.seq ?_
  refine Wc.region [{}, {}, { tk := [4] }] [] [2] [2] [] ⟨[(2, (.ptr 2 0, []))], [(2, .cells [.int .i64 2, .str e17_, .int .i64 0, .sl (List.map GTerm.c [])] [(3, .app 41)])], []⟩ _ (by kernel_rfl) .nil ?_
  refine Wc.ret ?_
  obtain rfl := Option.some.inj h
  exact ⟨.inl rfl, by kernel_rfl, by kernel_rfl⟩

def pspec_l03Count_L1 (k : Nat) (rspec_l03Count : GTerm → Int → Option Int) (f18_ : GTerm) : Nat → Int → Int → Option (Out Int Int)
  | 0, _, _ => none
  | m + 1, b20_, b21_ =>
    if (decide (b21_ < (f18_.gKids.length : Int))) = true then
      if (decide (b20_ ≥ 0)) = true then
        (at' f18_.gKids b21_).bind fun f23_ =>
        (rspec_l03Count f23_ b20_).bind fun b24_ =>
        pspec_l03Count_L1 k rspec_l03Count f18_ m b24_ (wr.i64 (b21_ + 1))
      else
        some (.done b20_)
    else
      some (.done b20_)
mutual
/-- spec.l03Count -/
def pspec_l03Count : Nat → GTerm → Int → Option Int
  | 0, _, _ => none
  | k + 1, f18_, b19_ =>
    (pspec_l03Count_L1 k (pspec_l03Count k) f18_ k (wr.i64 (b19_ - 1)) 0).bind fun out1 => match out1 with
    | .ret r => some r
    | .done b22_ =>
      some b22_
end
theorem all_pspec_l03Count : ∀ k : Nat, (∀ {f18_ : GTerm} {b19_ : Int} {r : Int}, pspec_l03Count k f18_ b19_ = some r → FnO Try.prog 73 [.v (.agg [.int .i64 f18_.gKind, .str f18_.gName, .int .i64 f18_.gNum, .sl (List.map GTerm.c f18_.gKids)]) [], .v (.int .i64 b19_) []] (.v (.int .i64 r) []) []) := by
  intro k
  induction k with
  | zero =>
    · intro f18_ b19_ r h
      exact (onone (by rw [pspec_l03Count] at h; exact h)).elim
  | succ k ih =>
    have ih_pspec_l03Count := @ih
    · intro f18_ b19_ r h
      rw [pspec_l03Count] at h
      refine FnO.of Try.func73 (rfl : Try.f73.body = some _) (Nat.le_of_ble_eq_true (by kernel_rfl)) (Nat.le_of_ble_eq_true (by kernel_rfl)) ?_
      intro w0 X0 Fin pv0 pb
      refine Wc.seq ?_
      refine Wc.region [] [] [1, 2] [2] [] ⟨[(1, (.v (.int .i64 b19_), [])), (2, (.ptr 2 0, []))], [(2, .cells [.int .i64 f18_.gKind, .str f18_.gName, .int .i64 f18_.gNum, .sl (List.map GTerm.c f18_.gKids)] [])], []⟩ _ (by kernel_rfl) .nil ?_
      refine Wc.seq ?_
      refine Wc.region [] [] [1, 2] [2] [] ⟨[(1, (.v (.int .i64 (wr.i64 (b19_ - 1))), [])), (2, (.ptr 2 0, []))], [(2, .cells [.int .i64 f18_.gKind, .str f18_.gName, .int .i64 f18_.gNum, .sl (List.map GTerm.c f18_.gKids)] [])], []⟩ _ (by kernel_rfl) .nil ?_
      refine Wc.seq ?_
      refine Wc.seq ?_
      refine Wc.region [] [] [1, 2, 5] [2] [] ⟨[(1, (.v (.int .i64 (wr.i64 (b19_ - 1))), [])), (2, (.ptr 2 0, [])), (5, (.v (.int .i64 0), []))], [(2, .cells [.int .i64 f18_.gKind, .str f18_.gName, .int .i64 f18_.gNum, .sl (List.map GTerm.c f18_.gKids)] [])], []⟩ _ (by kernel_rfl) .nil ?_
      obtain ⟨out1, h16, h⟩ := obind h
      refine Wc.lastJ (fun st => ∃ (b22_ : Int), out1 = .done b22_ ∧ st = ⟨[(1, (.v (.int .i64 b22_), []))], [], []⟩) ?_ ?_
      · refine Wc.block ?_
        refine Wc.loop (fun m st => ∃ (b20_ : Int) (b21_ : Int), st = ⟨[(1, (.v (.int .i64 b20_), [])), (2, (.ptr 2 0, [])), (5, (.v (.int .i64 b21_), []))], [(2, .cells [.int .i64 f18_.gKind, .str f18_.gName, .int .i64 f18_.gNum, .sl (List.map GTerm.c f18_.gKids)] [])], []⟩ ∧ pspec_l03Count_L1 k (pspec_l03Count k) f18_ m b20_ b21_ = some out1) ?_ k ⟨_, _, rfl, h16⟩
        rintro m st ⟨b20_, b21_, rfl, h16⟩
        cases m with
        | zero => exact (onone h16).elim
        | succ m =>
          refine Wc.seq ?_
          refine Wc.seq ?_
          rcases oif h16 with ⟨h17, h16⟩ | ⟨h17, h16⟩
          · refine Wc.region [{}, {}, {}, { v := some (.int .i64 (f18_.gKids.length : Int)) }, {}, { re := some (.bool true) }] [] [1, 2, 5, 16] [2] [] ⟨[(1, (.v (.int .i64 b20_), [])), (2, (.ptr 2 0, [])), (5, (.v (.int .i64 b21_), [])), (16, (.v (.bool (decide (b20_ ≥ 0))), []))], [(2, .cells [.int .i64 f18_.gKind, .str f18_.gName, .int .i64 f18_.gNum, .sl (List.map GTerm.c f18_.gKids)] [])], []⟩ _ (by kernel_rfl) (.cons (len_obl GTerm.c f18_.gKids) (.cons (congrArg AV.bool h17) .nil)) ?_
            rcases oif h16 with ⟨h18, h16⟩ | ⟨h18, h16⟩
            · refine Wc.condT h18 (by kernel_rfl) ?_
              refine Wc.fix (st' := ⟨[(1, (.v (.int .i64 b20_), [])), (2, (.ptr 2 0, [])), (5, (.v (.int .i64 b21_), []))], [(2, .cells [.int .i64 f18_.gKind, .str f18_.gName, .int .i64 f18_.gNum, .sl (List.map GTerm.c f18_.gKids)] [])], []⟩) [] [1, 2, 5] [2] [] (by kernel_rfl) ?_
              refine Wc.skip ?_
              refine Wc.seq ?_
              refine Wc.block ?_
              obtain ⟨f23_, h19, h16⟩ := obind h16
              obtain ⟨b24_, h20, h16⟩ := obind h16
              refine Wc.region [{}, {}, {}, { v := some (.vptr [.int .i64 f23_.gKind, .str f23_.gName, .int .i64 f23_.gNum, .sl (List.map GTerm.c f23_.gKids)]) }, {}, {}, { r := some (.v (.int .i64 b24_) []) }] [] [1, 2, 5] [2] [] ⟨[(1, (.v (.int .i64 b24_), [])), (2, (.ptr 2 0, [])), (5, (.v (.int .i64 b21_), []))], [(2, .cells [.int .i64 f18_.gKind, .str f18_.gName, .int .i64 f18_.gNum, .sl (List.map GTerm.c f18_.gKids)] [])], []⟩ _ (by kernel_rfl) (.cons (at_obl (c := GTerm.c) (GTerm.c_eq f23_) GTerm.c_len h19) (.cons (len_ok 4 [.int .i64 f23_.gKind, .str f23_.gName, .int .i64 f23_.gNum, .sl (List.map GTerm.c f23_.gKids)]) (.cons (ih_pspec_l03Count h20) .nil))) ?_
              refine Wc.region [] [] [1, 2, 5] [2] [] ⟨[(1, (.v (.int .i64 b24_), [])), (2, (.ptr 2 0, [])), (5, (.v (.int .i64 (wr.i64 (b21_ + 1))), []))], [(2, .cells [.int .i64 f18_.gKind, .str f18_.gName, .int .i64 f18_.gNum, .sl (List.map GTerm.c f18_.gKids)] [])], []⟩ _ (by kernel_rfl) .nil ?_
              exact ⟨_, Nat.lt_succ_self _, _, _, rfl, h16⟩
            · refine Wc.condF h18 (by kernel_rfl) ?_
              refine Wc.fix (st' := ⟨[(1, (.v (.int .i64 b20_), []))], [], []⟩) [] [1] [] [] (by kernel_rfl) ?_
              refine Wc.exit ?_
              obtain rfl := Option.some.inj h16
              exact ⟨_, rfl, rfl⟩
          · refine Wc.region [{}, {}, {}, { v := some (.int .i64 (f18_.gKids.length : Int)) }, {}, { re := some (.bool false) }] [] [1, 2, 5, 16] [2] [] ⟨[(1, (.v (.int .i64 b20_), [])), (2, (.ptr 2 0, [])), (5, (.v (.int .i64 b21_), [])), (16, (.v (.bool false), []))], [(2, .cells [.int .i64 f18_.gKind, .str f18_.gName, .int .i64 f18_.gNum, .sl (List.map GTerm.c f18_.gKids)] [])], []⟩ _ (by kernel_rfl) (.cons (len_obl GTerm.c f18_.gKids) (.cons (congrArg AV.bool h17) .nil)) ?_
            refine Wc.condF rfl (by kernel_rfl) ?_
            refine Wc.fix (st' := ⟨[(1, (.v (.int .i64 b20_), []))], [], []⟩) [] [1] [] [] (by kernel_rfl) ?_
            refine Wc.exit ?_
            obtain rfl := Option.some.inj h16
            exact ⟨_, rfl, rfl⟩
      · rintro st ⟨b22_, rfl, rfl⟩
        refine Wc.seq ?_
        refine Wc.region [] [] [4] [] [] ⟨[(4, (.v (.int .i64 b22_), []))], [], []⟩ _ (by kernel_rfl) .nil ?_
        refine Wc.ret ?_
        obtain rfl := Option.some.inj h
        exact ⟨.inl rfl, by kernel_rfl, by kernel_rfl⟩
theorem cspec_l03Count {k : Nat} {f18_ : GTerm} {b19_ : Int} {r : Int} (h : pspec_l03Count k f18_ b19_ = some r) : FnO Try.prog 73 [.v (.agg [.int .i64 f18_.gKind, .str f18_.gName, .int .i64 f18_.gNum, .sl (List.map GTerm.c f18_.gKids)]) [], .v (.int .i64 b19_) []] (.v (.int .i64 r) []) [] := (all_pspec_l03Count k) h

/-- spec.l01In -/
def pspec_l01In (k : Nat) (b25_ : Int) (b26_ : Int) (b27_ : Int) : Option Bool :=
  if (decide (b25_ ≥ b26_)) = true then
    some (decide (b25_ ≤ b27_))
  else
    some false
theorem cspec_l01In {k : Nat} {b25_ : Int} {b26_ : Int} {b27_ : Int} {r : Bool} (h : pspec_l01In k b25_ b26_ b27_ = some r) : FnO Try.prog 128 [.v (.int .i64 b25_) [], .v (.int .i64 b26_) [], .v (.int .i64 b27_) []] (.v (.bool r) []) [] := by
  refine FnO.of Try.func128 (rfl : Try.f128.body = some _) (Nat.le_of_ble_eq_true (by kernel_rfl)) (Nat.le_of_ble_eq_true (by kernel_rfl)) ?_
  intro w0 X0 Fin pv0 pb
  unfold pspec_l01In at h
  refine Wc.seq ?_
  refine Wc.region [] [] [0, 1, 2] [] [] ⟨[(0, (.v (.int .i64 b25_), [])), (1, (.v (.int .i64 b26_), [])), (2, (.v (.int .i64 b27_), []))], [], []⟩ _ (by kernel_rfl) .nil ?_
  refine Wc.seq ?_
  rcases oif h with ⟨h21, h⟩ | ⟨h21, h⟩
  · refine Wc.region [{}, {}, {}, { re := some (.bool true) }] [] [6] [] [] ⟨[(6, (.v (.bool (decide (b25_ ≤ b27_))), []))], [], []⟩ _ (by kernel_rfl) (.cons (congrArg AV.bool h21) .nil) ?_
    refine Wc.ret ?_
    obtain rfl := Option.some.inj h
    exact ⟨.inl rfl, by kernel_rfl, by kernel_rfl⟩
  · refine Wc.region [{}, {}, {}, { re := some (.bool false) }] [] [6] [] [] ⟨[(6, (.v (.bool false), []))], [], []⟩ _ (by kernel_rfl) (.cons (congrArg AV.bool h21) .nil) ?_
    refine Wc.ret ?_
    obtain rfl := Option.some.inj h
    exact ⟨.inl rfl, by kernel_rfl, by kernel_rfl⟩

def pspec_l03Name_L1 (k : Nat) (e28_ : ByteArray) : Nat → Int → Option (Out Bool Unit)
  | 0, _ => none
  | m + 1, b29_ =>
    if (decide (b29_ < (e28_.size : Int))) = true then
      if 0 ≤ b29_ ∧ (b29_).toNat < e28_.size then
        if (decide ((bt e28_ b29_) < 33)) = true then
          some (.ret false)
        else
          if 0 ≤ b29_ ∧ (b29_).toNat < e28_.size then
            if (decide ((bt e28_ b29_) > 126)) = true then
              some (.ret false)
            else
              if 0 ≤ b29_ ∧ (b29_).toNat < e28_.size then
                if ((bt e28_ b29_) == 39) = true then
                  some (.ret false)
                else
                  if 0 ≤ b29_ ∧ (b29_).toNat < e28_.size then
                    if ((bt e28_ b29_) == 34) = true then
                      some (.ret false)
                    else
                      pspec_l03Name_L1 k e28_ m (wr.i64 (b29_ + 1))
                  else none
              else none
          else none
      else none
    else
      some (.done ())
/-- spec.l03Name -/
def pspec_l03Name (k : Nat) (e28_ : ByteArray) : Option Bool :=
  (pspec_l03Name_L1 k e28_ k 0).bind fun out1 => match out1 with
  | .ret r => some r
  | .done () =>
    (pspec_l01In k (e28_.size : Int) 1 20).bind fun g30_ =>
    some g30_
theorem cspec_l03Name {k : Nat} {e28_ : ByteArray} {r : Bool} (h : pspec_l03Name k e28_ = some r) : FnO Try.prog 93 [.v (.str e28_) []] (.v (.bool r) []) [] := by
  refine FnO.of Try.func93 (rfl : Try.f93.body = some _) (Nat.le_of_ble_eq_true (by kernel_rfl)) (Nat.le_of_ble_eq_true (by kernel_rfl)) ?_
  intro w0 X0 Fin pv0 pb
  unfold pspec_l03Name at h
  refine Wc.seq ?_
  refine Wc.region [] [] [0] [] [] ⟨[(0, (.v (.str e28_), []))], [], []⟩ _ (by kernel_rfl) .nil ?_
  refine Wc.seq ?_
  refine Wc.seq ?_
  refine Wc.region [] [] [0, 3] [] [] ⟨[(0, (.v (.str e28_), [])), (3, (.v (.int .i64 0), []))], [], []⟩ _ (by kernel_rfl) .nil ?_
  obtain ⟨out1, h22, h⟩ := obind h
  refine Wc.lastJ (fun st => out1 = .done () ∧ st = ⟨[(0, (.v (.str e28_), []))], [], []⟩) ?_ ?_
  · refine Wc.block ?_
    refine Wc.loop (fun m st => ∃ (b29_ : Int), st = ⟨[(0, (.v (.str e28_), [])), (3, (.v (.int .i64 b29_), []))], [], []⟩ ∧ pspec_l03Name_L1 k e28_ m b29_ = some out1) ?_ k ⟨_, rfl, h22⟩
    rintro m st ⟨b29_, rfl, h22⟩
    cases m with
    | zero => exact (onone h22).elim
    | succ m =>
      refine Wc.seq ?_
      refine Wc.seq ?_
      refine Wc.region [] [] [0, 3, 7] [] [] ⟨[(0, (.v (.str e28_), [])), (3, (.v (.int .i64 b29_), [])), (7, (.v (.bool (decide (b29_ < (e28_.size : Int)))), []))], [], []⟩ _ (by kernel_rfl) .nil ?_
      rcases oif h22 with ⟨h23, h22⟩ | ⟨h23, h22⟩
      · refine Wc.condT h23 (by kernel_rfl) ?_
        refine Wc.fix (st' := ⟨[(0, (.v (.str e28_), [])), (3, (.v (.int .i64 b29_), []))], [], []⟩) [] [0, 3] [] [] (by kernel_rfl) ?_
        refine Wc.skip ?_
        refine Wc.seq ?_
        refine Wc.block ?_
        refine Wc.seq ?_
        obtain ⟨h24, h22⟩ := oguard h22
        rcases oif h22 with ⟨h25, h22⟩ | ⟨h25, h22⟩
        · refine Wc.region [{}, {}, {}, {}, { re := some (.bool true) }] [] [0, 3, 31] [] [] ⟨[(0, (.v (.str e28_), [])), (3, (.v (.int .i64 b29_), [])), (31, (.v (.bool true), []))], [], []⟩ _ (by kernel_rfl) (.cons h24 (.cons (congrArg AV.bool h25) .nil)) ?_
          refine Wc.condT rfl (by kernel_rfl) ?_
          refine Wc.seq ?_
          refine Wc.region [] [] [2] [] [] ⟨[(2, (.v (.bool false), []))], [], []⟩ _ (by kernel_rfl) .nil ?_
          refine Wc.ret ?_
          obtain rfl := Option.some.inj h22
          obtain rfl := Option.some.inj h
          exact ⟨.inl rfl, by kernel_rfl, by kernel_rfl⟩
        · obtain ⟨h26, h22⟩ := oguard h22
          rcases oif h22 with ⟨h27, h22⟩ | ⟨h27, h22⟩
          · refine Wc.region [{}, {}, {}, {}, { re := some (.bool false) }, {}, {}, {}, {}, {}, { re := some (.bool true) }] [] [0, 3, 31] [] [] ⟨[(0, (.v (.str e28_), [])), (3, (.v (.int .i64 b29_), [])), (31, (.v (.bool true), []))], [], []⟩ _ (by kernel_rfl) (.cons h24 (.cons (congrArg AV.bool h25) (.cons h26 (.cons (congrArg AV.bool h27) .nil)))) ?_
            refine Wc.condT rfl (by kernel_rfl) ?_
            refine Wc.seq ?_
            refine Wc.region [] [] [2] [] [] ⟨[(2, (.v (.bool false), []))], [], []⟩ _ (by kernel_rfl) .nil ?_
            refine Wc.ret ?_
            obtain rfl := Option.some.inj h22
            obtain rfl := Option.some.inj h
            exact ⟨.inl rfl, by kernel_rfl, by kernel_rfl⟩
          · obtain ⟨h28, h22⟩ := oguard h22
            rcases oif h22 with ⟨h29, h22⟩ | ⟨h29, h22⟩
            · refine Wc.region [{}, {}, {}, {}, { re := some (.bool false) }, {}, {}, {}, {}, {}, { re := some (.bool false) }, {}, {}, {}, {}, {}, { re := some (.bool true) }] [] [0, 3, 31] [] [] ⟨[(0, (.v (.str e28_), [])), (3, (.v (.int .i64 b29_), [])), (31, (.v (.bool true), []))], [], []⟩ _ (by kernel_rfl) (.cons h24 (.cons (congrArg AV.bool h25) (.cons h26 (.cons (congrArg AV.bool h27) (.cons h28 (.cons (congrArg AV.bool h29) .nil)))))) ?_
              refine Wc.condT rfl (by kernel_rfl) ?_
              refine Wc.seq ?_
              refine Wc.region [] [] [2] [] [] ⟨[(2, (.v (.bool false), []))], [], []⟩ _ (by kernel_rfl) .nil ?_
              refine Wc.ret ?_
              obtain rfl := Option.some.inj h22
              obtain rfl := Option.some.inj h
              exact ⟨.inl rfl, by kernel_rfl, by kernel_rfl⟩
            · obtain ⟨h30, h22⟩ := oguard h22
              refine Wc.region [{}, {}, {}, {}, { re := some (.bool false) }, {}, {}, {}, {}, {}, { re := some (.bool false) }, {}, {}, {}, {}, {}, { re := some (.bool false) }] [] [0, 3, 31] [] [] ⟨[(0, (.v (.str e28_), [])), (3, (.v (.int .i64 b29_), [])), (31, (.v (.bool ((bt e28_ b29_) == 34)), []))], [], []⟩ _ (by kernel_rfl) (.cons h24 (.cons (congrArg AV.bool h25) (.cons h26 (.cons (congrArg AV.bool h27) (.cons h28 (.cons (congrArg AV.bool h29) (.cons h30 .nil))))))) ?_
              rcases oif h22 with ⟨h31, h22⟩ | ⟨h31, h22⟩
              · refine Wc.condT h31 (by kernel_rfl) ?_
                refine Wc.seq ?_
                refine Wc.region [] [] [2] [] [] ⟨[(2, (.v (.bool false), []))], [], []⟩ _ (by kernel_rfl) .nil ?_
                refine Wc.ret ?_
                obtain rfl := Option.some.inj h22
                obtain rfl := Option.some.inj h
                exact ⟨.inl rfl, by kernel_rfl, by kernel_rfl⟩
              · refine Wc.condF h31 (by kernel_rfl) ?_
                refine Wc.fix (st' := ⟨[(0, (.v (.str e28_), [])), (3, (.v (.int .i64 b29_), []))], [], []⟩) [] [0, 3] [] [] (by kernel_rfl) ?_
                refine Wc.skip ?_
                refine Wc.region [] [] [0, 3] [] [] ⟨[(0, (.v (.str e28_), [])), (3, (.v (.int .i64 (wr.i64 (b29_ + 1))), []))], [], []⟩ _ (by kernel_rfl) .nil ?_
                exact ⟨_, Nat.lt_succ_self _, _, rfl, h22⟩
      · refine Wc.condF h23 (by kernel_rfl) ?_
        refine Wc.fix (st' := ⟨[(0, (.v (.str e28_), []))], [], []⟩) [] [0] [] [] (by kernel_rfl) ?_
        refine Wc.exit ?_
        obtain rfl := Option.some.inj h22
        exact ⟨rfl, rfl⟩
  · rintro st ⟨rfl, rfl⟩
    refine Wc.seq ?_
    obtain ⟨g30_, h32, h⟩ := obind h
    refine Wc.region [{}, {}, { r := some (.v (.bool g30_) []) }] [] [2] [] [] ⟨[(2, (.v (.bool g30_), []))], [], []⟩ _ (by kernel_rfl) (.cons (cspec_l01In h32) .nil) ?_
    refine Wc.ret ?_
    obtain rfl := Option.some.inj h
    exact ⟨.inl rfl, by kernel_rfl, by kernel_rfl⟩

/-- spec.l03One -/
def pspec_l03One (k : Nat) (f31_ : GTerm) : Option Bool :=
  if (f31_.gKind == 1) = true then
    (pspec_l01In k f31_.gNum 0 99999).bind fun g32_ =>
    if g32_ = true then
      if (sEq f31_.gName (bs [])) = true then
        some ((f31_.gKids.length : Int) == 0)
      else
        some false
    else
      some false
  else
    if (f31_.gKind == 2) = true then
      (pspec_l03Name k f31_.gName).bind fun g33_ =>
      if g33_ = true then
        if (f31_.gNum == 0) = true then
          some ((f31_.gKids.length : Int) == 0)
        else
          some false
      else
        some false
    else
      if (f31_.gKind == 3) = true then
        (pspec_l01In k f31_.gNum (-999999999) 999999999).bind fun g34_ =>
        if g34_ = true then
          if (sEq f31_.gName (bs [])) = true then
            some ((f31_.gKids.length : Int) == 0)
          else
            some false
        else
          some false
      else
        if (f31_.gKind == 4) = true then
          (pspec_l03Name k f31_.gName).bind fun g35_ =>
          if g35_ = true then
            if (f31_.gNum == 0) = true then
              (pspec_l01In k (f31_.gKids.length : Int) 1 5).bind fun g36_ =>
              some g36_
            else
              some false
          else
            some false
        else
          some false
theorem cspec_l03One {k : Nat} {f31_ : GTerm} {r : Bool} (h : pspec_l03One k f31_ = some r) : FnO Try.prog 169 [.v (.agg [.int .i64 f31_.gKind, .str f31_.gName, .int .i64 f31_.gNum, .sl (List.map GTerm.c f31_.gKids)]) []] (.v (.bool r) []) [] := by
  refine FnO.of Try.func169 (rfl : Try.f169.body = some _) (Nat.le_of_ble_eq_true (by kernel_rfl)) (Nat.le_of_ble_eq_true (by kernel_rfl)) ?_
  intro w0 X0 Fin pv0 pb
  unfold pspec_l03One at h
  refine Wc.seq ?_
  refine Wc.region [] [] [1] [1] [] ⟨[(1, (.ptr 1 0, []))], [(1, .cells [.int .i64 f31_.gKind, .str f31_.gName, .int .i64 f31_.gNum, .sl (List.map GTerm.c f31_.gKids)] [])], []⟩ _ (by kernel_rfl) .nil ?_
  refine Wc.seq ?_
  refine Wc.seq ?_
  refine Wc.region [] [] [1, 4] [1] [] ⟨[(1, (.ptr 1 0, [])), (4, (.v (.int .i64 f31_.gKind), []))], [(1, .cells [.int .i64 f31_.gKind, .str f31_.gName, .int .i64 f31_.gNum, .sl (List.map GTerm.c f31_.gKids)] [])], []⟩ _ (by kernel_rfl) .nil ?_
  refine Wc.block ?_
  refine Wc.seq ?_
  refine Wc.region [] [] [1, 4, 5] [1] [] ⟨[(1, (.ptr 1 0, [])), (4, (.v (.int .i64 f31_.gKind), [])), (5, (.v (.bool (f31_.gKind == 1)), []))], [(1, .cells [.int .i64 f31_.gKind, .str f31_.gName, .int .i64 f31_.gNum, .sl (List.map GTerm.c f31_.gKids)] [])], []⟩ _ (by kernel_rfl) .nil ?_
  rcases oif h with ⟨h33, h⟩ | ⟨h33, h⟩
  · refine Wc.condT h33 (by kernel_rfl) ?_
    refine Wc.seq ?_
    obtain ⟨g32_, h34, h⟩ := obind h
    rcases oif h with ⟨h35, h⟩ | ⟨h35, h⟩
    · rcases oif h with ⟨h36, h⟩ | ⟨h36, h⟩
      · refine Wc.region [{}, {}, { r := some (.v (.bool g32_) []) }, { re := some (.bool true) }, {}, {}, {}, {}, { re := some (.bool true) }, {}, {}, { v := some (.int .i64 (f31_.gKids.length : Int)) }] [] [2] [] [] ⟨[(2, (.v (.bool ((f31_.gKids.length : Int) == 0)), []))], [], []⟩ _ (by kernel_rfl) (.cons (cspec_l01In h34) (.cons (congrArg AV.bool h35) (.cons (congrArg AV.bool h36) (.cons (len_obl GTerm.c f31_.gKids) .nil)))) ?_
        refine Wc.ret ?_
        obtain rfl := Option.some.inj h
        exact ⟨.inl rfl, by kernel_rfl, by kernel_rfl⟩
      · refine Wc.region [{}, {}, { r := some (.v (.bool g32_) []) }, { re := some (.bool true) }, {}, {}, {}, {}, { re := some (.bool false) }] [] [2] [] [] ⟨[(2, (.v (.bool false), []))], [], []⟩ _ (by kernel_rfl) (.cons (cspec_l01In h34) (.cons (congrArg AV.bool h35) (.cons (congrArg AV.bool h36) .nil))) ?_
        refine Wc.ret ?_
        obtain rfl := Option.some.inj h
        exact ⟨.inl rfl, by kernel_rfl, by kernel_rfl⟩
    · refine Wc.region [{}, {}, { r := some (.v (.bool g32_) []) }, { re := some (.bool false) }] [] [2] [] [] ⟨[(2, (.v (.bool false), []))], [], []⟩ _ (by kernel_rfl) (.cons (cspec_l01In h34) (.cons (congrArg AV.bool h35) .nil)) ?_
      refine Wc.ret ?_
      obtain rfl := Option.some.inj h
      exact ⟨.inl rfl, by kernel_rfl, by kernel_rfl⟩
  · refine Wc.condF h33 (by kernel_rfl) ?_
    refine Wc.seq ?_
    refine Wc.region [] [] [1, 4, 21] [1] [] ⟨[(1, (.ptr 1 0, [])), (4, (.v (.int .i64 f31_.gKind), [])), (21, (.v (.bool (f31_.gKind == 2)), []))], [(1, .cells [.int .i64 f31_.gKind, .str f31_.gName, .int .i64 f31_.gNum, .sl (List.map GTerm.c f31_.gKids)] [])], []⟩ _ (by kernel_rfl) .nil ?_
    rcases oif h with ⟨h37, h⟩ | ⟨h37, h⟩
    · refine Wc.condT h37 (by kernel_rfl) ?_
      refine Wc.seq ?_
      obtain ⟨g33_, h38, h⟩ := obind h
      rcases oif h with ⟨h39, h⟩ | ⟨h39, h⟩
      · rcases oif h with ⟨h40, h⟩ | ⟨h40, h⟩
        · refine Wc.region [{}, {}, { r := some (.v (.bool g33_) []) }, { re := some (.bool true) }, {}, {}, {}, {}, { re := some (.bool true) }, {}, {}, { v := some (.int .i64 (f31_.gKids.length : Int)) }] [] [2] [] [] ⟨[(2, (.v (.bool ((f31_.gKids.length : Int) == 0)), []))], [], []⟩ _ (by kernel_rfl) (.cons (cspec_l03Name h38) (.cons (congrArg AV.bool h39) (.cons (congrArg AV.bool h40) (.cons (len_obl GTerm.c f31_.gKids) .nil)))) ?_
          refine Wc.ret ?_
          obtain rfl := Option.some.inj h
          exact ⟨.inl rfl, by kernel_rfl, by kernel_rfl⟩
        · refine Wc.region [{}, {}, { r := some (.v (.bool g33_) []) }, { re := some (.bool true) }, {}, {}, {}, {}, { re := some (.bool false) }] [] [2] [] [] ⟨[(2, (.v (.bool false), []))], [], []⟩ _ (by kernel_rfl) (.cons (cspec_l03Name h38) (.cons (congrArg AV.bool h39) (.cons (congrArg AV.bool h40) .nil))) ?_
          refine Wc.ret ?_
          obtain rfl := Option.some.inj h
          exact ⟨.inl rfl, by kernel_rfl, by kernel_rfl⟩
      · refine Wc.region [{}, {}, { r := some (.v (.bool g33_) []) }, { re := some (.bool false) }] [] [2] [] [] ⟨[(2, (.v (.bool false), []))], [], []⟩ _ (by kernel_rfl) (.cons (cspec_l03Name h38) (.cons (congrArg AV.bool h39) .nil)) ?_
        refine Wc.ret ?_
        obtain rfl := Option.some.inj h
        exact ⟨.inl rfl, by kernel_rfl, by kernel_rfl⟩
    · refine Wc.condF h37 (by kernel_rfl) ?_
      refine Wc.seq ?_
      refine Wc.region [] [] [1, 4, 37] [1] [] ⟨[(1, (.ptr 1 0, [])), (4, (.v (.int .i64 f31_.gKind), [])), (37, (.v (.bool (f31_.gKind == 3)), []))], [(1, .cells [.int .i64 f31_.gKind, .str f31_.gName, .int .i64 f31_.gNum, .sl (List.map GTerm.c f31_.gKids)] [])], []⟩ _ (by kernel_rfl) .nil ?_
      rcases oif h with ⟨h41, h⟩ | ⟨h41, h⟩
      · refine Wc.condT h41 (by kernel_rfl) ?_
        refine Wc.seq ?_
        obtain ⟨g34_, h42, h⟩ := obind h
        rcases oif h with ⟨h43, h⟩ | ⟨h43, h⟩
        · rcases oif h with ⟨h44, h⟩ | ⟨h44, h⟩
          · refine Wc.region [{}, {}, { r := some (.v (.bool g34_) []) }, { re := some (.bool true) }, {}, {}, {}, {}, { re := some (.bool true) }, {}, {}, { v := some (.int .i64 (f31_.gKids.length : Int)) }] [] [2] [] [] ⟨[(2, (.v (.bool ((f31_.gKids.length : Int) == 0)), []))], [], []⟩ _ (by kernel_rfl) (.cons (cspec_l01In h42) (.cons (congrArg AV.bool h43) (.cons (congrArg AV.bool h44) (.cons (len_obl GTerm.c f31_.gKids) .nil)))) ?_
            refine Wc.ret ?_
            obtain rfl := Option.some.inj h
            exact ⟨.inl rfl, by kernel_rfl, by kernel_rfl⟩
          · refine Wc.region [{}, {}, { r := some (.v (.bool g34_) []) }, { re := some (.bool true) }, {}, {}, {}, {}, { re := some (.bool false) }] [] [2] [] [] ⟨[(2, (.v (.bool false), []))], [], []⟩ _ (by kernel_rfl) (.cons (cspec_l01In h42) (.cons (congrArg AV.bool h43) (.cons (congrArg AV.bool h44) .nil))) ?_
            refine Wc.ret ?_
            obtain rfl := Option.some.inj h
            exact ⟨.inl rfl, by kernel_rfl, by kernel_rfl⟩
        · refine Wc.region [{}, {}, { r := some (.v (.bool g34_) []) }, { re := some (.bool false) }] [] [2] [] [] ⟨[(2, (.v (.bool false), []))], [], []⟩ _ (by kernel_rfl) (.cons (cspec_l01In h42) (.cons (congrArg AV.bool h43) .nil)) ?_
          refine Wc.ret ?_
          obtain rfl := Option.some.inj h
          exact ⟨.inl rfl, by kernel_rfl, by kernel_rfl⟩
      · refine Wc.condF h41 (by kernel_rfl) ?_
        refine Wc.seq ?_
        refine Wc.region [] [] [1, 53] [1] [] ⟨[(1, (.ptr 1 0, [])), (53, (.v (.bool (f31_.gKind == 4)), []))], [(1, .cells [.int .i64 f31_.gKind, .str f31_.gName, .int .i64 f31_.gNum, .sl (List.map GTerm.c f31_.gKids)] [])], []⟩ _ (by kernel_rfl) .nil ?_
        rcases oif h with ⟨h45, h⟩ | ⟨h45, h⟩
        · refine Wc.condT h45 (by kernel_rfl) ?_
          refine Wc.seq ?_
          obtain ⟨g35_, h46, h⟩ := obind h
          rcases oif h with ⟨h47, h⟩ | ⟨h47, h⟩
          · rcases oif h with ⟨h48, h⟩ | ⟨h48, h⟩
            · obtain ⟨g36_, h49, h⟩ := obind h
              refine Wc.region [{}, {}, { r := some (.v (.bool g35_) []) }, { re := some (.bool true) }, {}, {}, {}, {}, { re := some (.bool true) }, {}, {}, { v := some (.int .i64 (f31_.gKids.length : Int)) }, { r := some (.v (.bool g36_) []) }] [] [2] [] [] ⟨[(2, (.v (.bool g36_), []))], [], []⟩ _ (by kernel_rfl) (.cons (cspec_l03Name h46) (.cons (congrArg AV.bool h47) (.cons (congrArg AV.bool h48) (.cons (len_obl GTerm.c f31_.gKids) (.cons (cspec_l01In h49) .nil))))) ?_
              refine Wc.ret ?_
              obtain rfl := Option.some.inj h
              exact ⟨.inl rfl, by kernel_rfl, by kernel_rfl⟩
            · refine Wc.region [{}, {}, { r := some (.v (.bool g35_) []) }, { re := some (.bool true) }, {}, {}, {}, {}, { re := some (.bool false) }] [] [2] [] [] ⟨[(2, (.v (.bool false), []))], [], []⟩ _ (by kernel_rfl) (.cons (cspec_l03Name h46) (.cons (congrArg AV.bool h47) (.cons (congrArg AV.bool h48) .nil))) ?_
              refine Wc.ret ?_
              obtain rfl := Option.some.inj h
              exact ⟨.inl rfl, by kernel_rfl, by kernel_rfl⟩
          · refine Wc.region [{}, {}, { r := some (.v (.bool g35_) []) }, { re := some (.bool false) }] [] [2] [] [] ⟨[(2, (.v (.bool false), []))], [], []⟩ _ (by kernel_rfl) (.cons (cspec_l03Name h46) (.cons (congrArg AV.bool h47) .nil)) ?_
            refine Wc.ret ?_
            obtain rfl := Option.some.inj h
            exact ⟨.inl rfl, by kernel_rfl, by kernel_rfl⟩
        · refine Wc.condF h45 (by kernel_rfl) ?_
          refine Wc.fix (st' := ⟨[], [], []⟩) [] [] [] [] (by kernel_rfl) ?_
          refine Wc.skip ?_
          refine Wc.seq ?_
          refine Wc.region [] [] [2] [] [] ⟨[(2, (.v (.bool false), []))], [], []⟩ _ (by kernel_rfl) .nil ?_
          refine Wc.ret ?_
          obtain rfl := Option.some.inj h
          exact ⟨.inl rfl, by kernel_rfl, by kernel_rfl⟩

def pspec_l03Right_L1 (k : Nat) (rspec_l03Right : GTerm → Int → Option Bool) (f37_ : GTerm) (b38_ : Int) : Nat → Int → Option (Out Bool Unit)
  | 0, _ => none
  | m + 1, b40_ =>
    if (decide (b40_ < (f37_.gKids.length : Int))) = true then
      (at' f37_.gKids b40_).bind fun f41_ =>
      (rspec_l03Right f41_ (wr.i64 (b38_ + 1))).bind fun g42_ =>
      if (!g42_) = true then
        some (.ret false)
      else
        pspec_l03Right_L1 k rspec_l03Right f37_ b38_ m (wr.i64 (b40_ + 1))
    else
      some (.done ())
mutual
/-- spec.l03Right -/
def pspec_l03Right : Nat → GTerm → Int → Option Bool
  | 0, _, _ => none
  | k + 1, f37_, b38_ =>
    if (decide (b38_ > 40)) = true then
      some false
    else
      (pspec_l03One k f37_).bind fun g39_ =>
      if (!g39_) = true then
        some false
      else
        (pspec_l03Right_L1 k (pspec_l03Right k) f37_ b38_ k 0).bind fun out1 => match out1 with
        | .ret r => some r
        | .done () =>
          some true
end
theorem all_pspec_l03Right : ∀ k : Nat, (∀ {f37_ : GTerm} {b38_ : Int} {r : Bool}, pspec_l03Right k f37_ b38_ = some r → FnO Try.prog 151 [.v (.agg [.int .i64 f37_.gKind, .str f37_.gName, .int .i64 f37_.gNum, .sl (List.map GTerm.c f37_.gKids)]) [], .v (.int .i64 b38_) []] (.v (.bool r) []) []) := by
  intro k
  induction k with
  | zero =>
    · intro f37_ b38_ r h
      exact (onone (by rw [pspec_l03Right] at h; exact h)).elim
  | succ k ih =>
    have ih_pspec_l03Right := @ih
    · intro f37_ b38_ r h
      rw [pspec_l03Right] at h
      refine FnO.of Try.func151 (rfl : Try.f151.body = some _) (Nat.le_of_ble_eq_true (by kernel_rfl)) (Nat.le_of_ble_eq_true (by kernel_rfl)) ?_
      intro w0 X0 Fin pv0 pb
      refine Wc.seq ?_
      refine Wc.region [] [] [1, 2] [2] [] ⟨[(1, (.v (.int .i64 b38_), [])), (2, (.ptr 2 0, []))], [(2, .cells [.int .i64 f37_.gKind, .str f37_.gName, .int .i64 f37_.gNum, .sl (List.map GTerm.c f37_.gKids)] [])], []⟩ _ (by kernel_rfl) .nil ?_
      refine Wc.seq ?_
      refine Wc.seq ?_
      rcases oif h with ⟨h50, h⟩ | ⟨h50, h⟩
      · refine Wc.region [{}, {}, { re := some (.bool true) }] [] [1, 2, 12] [2] [] ⟨[(1, (.v (.int .i64 b38_), [])), (2, (.ptr 2 0, [])), (12, (.v (.bool true), []))], [(2, .cells [.int .i64 f37_.gKind, .str f37_.gName, .int .i64 f37_.gNum, .sl (List.map GTerm.c f37_.gKids)] [])], []⟩ _ (by kernel_rfl) (.cons (congrArg AV.bool h50) .nil) ?_
        refine Wc.condT rfl (by kernel_rfl) ?_
        refine Wc.seq ?_
        refine Wc.region [] [] [4] [] [] ⟨[(4, (.v (.bool false), []))], [], []⟩ _ (by kernel_rfl) .nil ?_
        refine Wc.ret ?_
        obtain rfl := Option.some.inj h
        exact ⟨.inl rfl, by kernel_rfl, by kernel_rfl⟩
      · obtain ⟨g39_, h51, h⟩ := obind h
        refine Wc.region [{}, {}, { re := some (.bool false) }, {}, { r := some (.v (.bool g39_) []) }] [] [1, 2, 12] [2] [] ⟨[(1, (.v (.int .i64 b38_), [])), (2, (.ptr 2 0, [])), (12, (.v (.bool (!g39_)), []))], [(2, .cells [.int .i64 f37_.gKind, .str f37_.gName, .int .i64 f37_.gNum, .sl (List.map GTerm.c f37_.gKids)] [])], []⟩ _ (by kernel_rfl) (.cons (congrArg AV.bool h50) (.cons (cspec_l03One h51) .nil)) ?_
        rcases oif h with ⟨h52, h⟩ | ⟨h52, h⟩
        · refine Wc.condT h52 (by kernel_rfl) ?_
          refine Wc.seq ?_
          refine Wc.region [] [] [4] [] [] ⟨[(4, (.v (.bool false), []))], [], []⟩ _ (by kernel_rfl) .nil ?_
          refine Wc.ret ?_
          obtain rfl := Option.some.inj h
          exact ⟨.inl rfl, by kernel_rfl, by kernel_rfl⟩
        · refine Wc.condF h52 (by kernel_rfl) ?_
          refine Wc.fix (st' := ⟨[(1, (.v (.int .i64 b38_), [])), (2, (.ptr 2 0, []))], [(2, .cells [.int .i64 f37_.gKind, .str f37_.gName, .int .i64 f37_.gNum, .sl (List.map GTerm.c f37_.gKids)] [])], []⟩) [] [1, 2] [2] [] (by kernel_rfl) ?_
          refine Wc.skip ?_
          refine Wc.seq ?_
          refine Wc.seq ?_
          refine Wc.region [] [] [1, 2, 5] [2] [] ⟨[(1, (.v (.int .i64 b38_), [])), (2, (.ptr 2 0, [])), (5, (.v (.int .i64 0), []))], [(2, .cells [.int .i64 f37_.gKind, .str f37_.gName, .int .i64 f37_.gNum, .sl (List.map GTerm.c f37_.gKids)] [])], []⟩ _ (by kernel_rfl) .nil ?_
          obtain ⟨out1, h53, h⟩ := obind h
          refine Wc.lastJ (fun st => out1 = .done () ∧ st = ⟨[], [], []⟩) ?_ ?_
          · refine Wc.block ?_
            refine Wc.loop (fun m st => ∃ (b40_ : Int), st = ⟨[(1, (.v (.int .i64 b38_), [])), (2, (.ptr 2 0, [])), (5, (.v (.int .i64 b40_), []))], [(2, .cells [.int .i64 f37_.gKind, .str f37_.gName, .int .i64 f37_.gNum, .sl (List.map GTerm.c f37_.gKids)] [])], []⟩ ∧ pspec_l03Right_L1 k (pspec_l03Right k) f37_ b38_ m b40_ = some out1) ?_ k ⟨_, rfl, h53⟩
            rintro m st ⟨b40_, rfl, h53⟩
            cases m with
            | zero => exact (onone h53).elim
            | succ m =>
              refine Wc.seq ?_
              refine Wc.seq ?_
              refine Wc.region [{}, {}, {}, { v := some (.int .i64 (f37_.gKids.length : Int)) }] [] [1, 2, 5, 17] [2] [] ⟨[(1, (.v (.int .i64 b38_), [])), (2, (.ptr 2 0, [])), (5, (.v (.int .i64 b40_), [])), (17, (.v (.bool (decide (b40_ < (f37_.gKids.length : Int)))), []))], [(2, .cells [.int .i64 f37_.gKind, .str f37_.gName, .int .i64 f37_.gNum, .sl (List.map GTerm.c f37_.gKids)] [])], []⟩ _ (by kernel_rfl) (.cons (len_obl GTerm.c f37_.gKids) .nil) ?_
              rcases oif h53 with ⟨h54, h53⟩ | ⟨h54, h53⟩
              · refine Wc.condT h54 (by kernel_rfl) ?_
                refine Wc.fix (st' := ⟨[(1, (.v (.int .i64 b38_), [])), (2, (.ptr 2 0, [])), (5, (.v (.int .i64 b40_), []))], [(2, .cells [.int .i64 f37_.gKind, .str f37_.gName, .int .i64 f37_.gNum, .sl (List.map GTerm.c f37_.gKids)] [])], []⟩) [] [1, 2, 5] [2] [] (by kernel_rfl) ?_
                refine Wc.skip ?_
                refine Wc.seq ?_
                refine Wc.block ?_
                refine Wc.seq ?_
                obtain ⟨f41_, h55, h53⟩ := obind h53
                obtain ⟨g42_, h56, h53⟩ := obind h53
                refine Wc.region [{}, {}, {}, { v := some (.vptr [.int .i64 f41_.gKind, .str f41_.gName, .int .i64 f41_.gNum, .sl (List.map GTerm.c f41_.gKids)]) }, {}, {}, {}, { r := some (.v (.bool g42_) []) }] [] [1, 2, 5, 28] [2] [] ⟨[(1, (.v (.int .i64 b38_), [])), (2, (.ptr 2 0, [])), (5, (.v (.int .i64 b40_), [])), (28, (.v (.bool (!g42_)), []))], [(2, .cells [.int .i64 f37_.gKind, .str f37_.gName, .int .i64 f37_.gNum, .sl (List.map GTerm.c f37_.gKids)] [])], []⟩ _ (by kernel_rfl) (.cons (at_obl (c := GTerm.c) (GTerm.c_eq f41_) GTerm.c_len h55) (.cons (len_ok 4 [.int .i64 f41_.gKind, .str f41_.gName, .int .i64 f41_.gNum, .sl (List.map GTerm.c f41_.gKids)]) (.cons (ih_pspec_l03Right h56) .nil))) ?_
                rcases oif h53 with ⟨h57, h53⟩ | ⟨h57, h53⟩
                · refine Wc.condT h57 (by kernel_rfl) ?_
                  refine Wc.seq ?_
                  refine Wc.region [] [] [4] [] [] ⟨[(4, (.v (.bool false), []))], [], []⟩ _ (by kernel_rfl) .nil ?_
                  refine Wc.ret ?_
                  obtain rfl := Option.some.inj h53
                  obtain rfl := Option.some.inj h
                  exact ⟨.inl rfl, by kernel_rfl, by kernel_rfl⟩
                · refine Wc.condF h57 (by kernel_rfl) ?_
                  refine Wc.fix (st' := ⟨[(1, (.v (.int .i64 b38_), [])), (2, (.ptr 2 0, [])), (5, (.v (.int .i64 b40_), []))], [(2, .cells [.int .i64 f37_.gKind, .str f37_.gName, .int .i64 f37_.gNum, .sl (List.map GTerm.c f37_.gKids)] [])], []⟩) [] [1, 2, 5] [2] [] (by kernel_rfl) ?_
                  refine Wc.skip ?_
                  refine Wc.region [] [] [1, 2, 5] [2] [] ⟨[(1, (.v (.int .i64 b38_), [])), (2, (.ptr 2 0, [])), (5, (.v (.int .i64 (wr.i64 (b40_ + 1))), []))], [(2, .cells [.int .i64 f37_.gKind, .str f37_.gName, .int .i64 f37_.gNum, .sl (List.map GTerm.c f37_.gKids)] [])], []⟩ _ (by kernel_rfl) .nil ?_
                  exact ⟨_, Nat.lt_succ_self _, _, rfl, h53⟩
              · refine Wc.condF h54 (by kernel_rfl) ?_
                refine Wc.fix (st' := ⟨[], [], []⟩) [] [] [] [] (by kernel_rfl) ?_
                refine Wc.exit ?_
                obtain rfl := Option.some.inj h53
                exact ⟨rfl, rfl⟩
          · rintro st ⟨rfl, rfl⟩
            refine Wc.seq ?_
            refine Wc.region [] [] [4] [] [] ⟨[(4, (.v (.bool true), []))], [], []⟩ _ (by kernel_rfl) .nil ?_
            refine Wc.ret ?_
            obtain rfl := Option.some.inj h
            exact ⟨.inl rfl, by kernel_rfl, by kernel_rfl⟩
theorem cspec_l03Right {k : Nat} {f37_ : GTerm} {b38_ : Int} {r : Bool} (h : pspec_l03Right k f37_ b38_ = some r) : FnO Try.prog 151 [.v (.agg [.int .i64 f37_.gKind, .str f37_.gName, .int .i64 f37_.gNum, .sl (List.map GTerm.c f37_.gKids)]) [], .v (.int .i64 b38_) []] (.v (.bool r) []) [] := (all_pspec_l03Right k) h

/-- spec.TermOk -/
def pspec_TermOk (k : Nat) (f43_ : GTerm) : Option Bool :=
  (pspec_l03Count k f43_ 400).bind fun b44_ =>
  if (decide (b44_ ≥ 0)) = true then
    (pspec_l03Right k f43_ 1).bind fun g45_ =>
    some g45_
  else
    some false
theorem cspec_TermOk {k : Nat} {f43_ : GTerm} {r : Bool} (h : pspec_TermOk k f43_ = some r) : FnO Try.prog 103 [.v (.agg [.int .i64 f43_.gKind, .str f43_.gName, .int .i64 f43_.gNum, .sl (List.map GTerm.c f43_.gKids)]) []] (.v (.bool r) []) [] := by
  refine FnO.of Try.func103 (rfl : Try.f103.body = some _) (Nat.le_of_ble_eq_true (by kernel_rfl)) (Nat.le_of_ble_eq_true (by kernel_rfl)) ?_
  intro w0 X0 Fin pv0 pb
  unfold pspec_TermOk at h
  refine Wc.seq ?_
  refine Wc.region [] [] [1] [1] [] ⟨[(1, (.ptr 1 0, []))], [(1, .cells [.int .i64 f43_.gKind, .str f43_.gName, .int .i64 f43_.gNum, .sl (List.map GTerm.c f43_.gKids)] [])], []⟩ _ (by kernel_rfl) .nil ?_
  refine Wc.seq ?_
  obtain ⟨b44_, h58, h⟩ := obind h
  rcases oif h with ⟨h59, h⟩ | ⟨h59, h⟩
  · obtain ⟨g45_, h60, h⟩ := obind h
    refine Wc.region [{}, { r := some (.v (.int .i64 b44_) []) }, {}, { re := some (.bool true) }, {}, { r := some (.v (.bool g45_) []) }] [] [2] [] [] ⟨[(2, (.v (.bool g45_), []))], [], []⟩ _ (by kernel_rfl) (.cons (cspec_l03Count h58) (.cons (congrArg AV.bool h59) (.cons (cspec_l03Right h60) .nil))) ?_
    refine Wc.ret ?_
    obtain rfl := Option.some.inj h
    exact ⟨.inl rfl, by kernel_rfl, by kernel_rfl⟩
  · refine Wc.region [{}, { r := some (.v (.int .i64 b44_) []) }, {}, { re := some (.bool false) }] [] [2] [] [] ⟨[(2, (.v (.bool false), []))], [], []⟩ _ (by kernel_rfl) (.cons (cspec_l03Count h58) (.cons (congrArg AV.bool h59) .nil)) ?_
    refine Wc.ret ?_
    obtain rfl := Option.some.inj h
    exact ⟨.inl rfl, by kernel_rfl, by kernel_rfl⟩

/-- spec.l01Pick -/
def pspec_l01Pick (k : Nat) (c46_ : GL01Cur) (i47_ : List ByteArray) : Option (GL01Cur × ByteArray) :=
  (pspec_l01Below k c46_ (i47_.length : Int)).bind fun d48_ =>
  (at' i47_ d48_.2).bind fun e49_ =>
  some (d48_.1, e49_)
theorem cspec_l01Pick {k : Nat} {c46_ : GL01Cur} {i47_ : List ByteArray} {r : GL01Cur × ByteArray} (h : pspec_l01Pick k c46_ i47_ = some r) : FnO Try.prog 65 [.p [.sl (List.map cI.u8 c46_.gB), .int .i64 c46_.gI, .int .i64 c46_.gH] [], .v (.sl (List.map cS i47_)) []] (.v (.str r.2) []) [(0, .p [.sl (List.map cI.u8 r.1.gB), .int .i64 r.1.gI, .int .i64 r.1.gH] [])] := by
  refine FnO.of Try.func65 (rfl : Try.f65.body = some _) (Nat.le_of_ble_eq_true (by kernel_rfl)) (Nat.le_of_ble_eq_true (by kernel_rfl)) ?_
  intro w0 X0 Fin pv0 pb
  unfold pspec_l01Pick at h
  refine Wc.seq ?_
  refine Wc.region [] [] [0, 1] [1000000] [] ⟨[(0, (.ptr 1000000 0, [])), (1, (.v (.sl (List.map cS i47_)), []))], [(1000000, .cells [.sl (List.map cI.u8 c46_.gB), .int .i64 c46_.gI, .int .i64 c46_.gH] [])], []⟩ _ (by kernel_rfl) .nil ?_
  refine Wc.seq ?_
  obtain ⟨d48_, h61, h⟩ := obind h
  obtain ⟨e49_, h62, h⟩ := obind h
  refine Wc.region [{}, {}, {}, { v := some (.int .i64 (i47_.length : Int)) }, { r := some (.v (.int .i64 d48_.2) []), outs := [(0, .p [.sl (List.map cI.u8 d48_.1.gB), .int .i64 d48_.1.gI, .int .i64 d48_.1.gH] [])] }, { v := some (.vptr [.str e49_]) }] [] [4] [1000000] [] ⟨[(4, (.v (.str e49_), []))], [(1000000, .cells [.sl (List.map cI.u8 d48_.1.gB), .int .i64 d48_.1.gI, .int .i64 d48_.1.gH] [])], []⟩ _ (by kernel_rfl) (.cons (len_obl cS i47_) (.cons (cspec_l01Below h61) (.cons (at_obl (c := cS) rfl cS_len h62) (.cons (len_ok 1 [.str e49_]) .nil)))) ?_
  refine Wc.ret ?_
  obtain rfl := Option.some.inj h
  exact ⟨.inl rfl, by kernel_rfl, by kernel_rfl⟩

/-- spec.l03Two -/
def pspec_l03Two (k : Nat) (e53_ : ByteArray) (f54_ : GTerm) (f55_ : GTerm) : Option GTerm :=
  some (GTerm.mk 4 e53_ 0 [f54_, f55_])
theorem cspec_l03Two {k : Nat} {e53_ : ByteArray} {f54_ : GTerm} {f55_ : GTerm} {r : GTerm} (h : pspec_l03Two k e53_ f54_ f55_ = some r) : FnO Try.prog 94 [.v (.str e53_) [], .v (.agg [.int .i64 f54_.gKind, .str f54_.gName, .int .i64 f54_.gNum, .sl (List.map GTerm.c f54_.gKids)]) [], .v (.agg [.int .i64 f55_.gKind, .str f55_.gName, .int .i64 f55_.gNum, .sl (List.map GTerm.c f55_.gKids)]) []] (.v (.agg [.int .i64 r.gKind, .str r.gName, .int .i64 r.gNum, .sl (List.map GTerm.c r.gKids)]) [(3, .app 41)]) [] := by
  refine FnO.of Try.func94 (rfl : Try.f94.body = some _) (Nat.le_of_ble_eq_true (by kernel_rfl)) (Nat.le_of_ble_eq_true (by kernel_rfl)) ?_
  intro w0 X0 Fin pv0 pb
  unfold pspec_l03Two at h
  refine Wc.seq ?_
  refine Wc.region [] [] [0, 4, 5, 6] [4, 5, 6] [] ⟨[(0, (.v (.str e53_), [])), (4, (.ptr 4 0, [])), (5, (.ptr 5 0, [])), (6, (.ptr 6 0, []))], [(4, .cells [.int .i64 f54_.gKind, .str f54_.gName, .int .i64 f54_.gNum, .sl (List.map GTerm.c f54_.gKids)] []), (5, .cells [.int .i64 f55_.gKind, .str f55_.gName, .int .i64 f55_.gNum, .sl (List.map GTerm.c f55_.gKids)] []), (6, .cells [.int .i64 0, .str (bs []), .int .i64 0, .sl (List.map GTerm.c [])] [(3, .app 41)])], []⟩ _ (by kernel_rfl) .nil ?_
  refine Wc.seq ?_
  refine Wc.region [{}, {}, {}, { c := some (List.map GTerm.c [f54_, f55_]) }, { tk := [10] }, { tk := [11] }] [] [6] [6] [] ⟨[(6, (.ptr 6 0, []))], [(6, .cells [.int .i64 4, .str e53_, .int .i64 0, .sl (List.map GTerm.c [f54_, f55_])] [(3, .app 41)])], []⟩ _ (by kernel_rfl) (.cons (cl_cons (c := GTerm.c) (x := f54_) (GTerm.c_eq f54_) (cl_cons (c := GTerm.c) (x := f55_) (GTerm.c_eq f55_) (cl_nil GTerm.c))) .nil) ?_
  refine Wc.ret ?_
  obtain rfl := Option.some.inj h
  exact ⟨.inl rfl, by kernel_rfl, by kernel_rfl⟩

/-- spec.l01PickInt -/
def pspec_l01PickInt (k : Nat) (c56_ : GL01Cur) (a57_ : List Int) : Option (GL01Cur × Int) :=
  (pspec_l01Below k c56_ (a57_.length : Int)).bind fun d58_ =>
  (at' a57_ d58_.2).bind fun b59_ =>
  some (d58_.1, b59_)
theorem cspec_l01PickInt {k : Nat} {c56_ : GL01Cur} {a57_ : List Int} {r : GL01Cur × Int} (h : pspec_l01PickInt k c56_ a57_ = some r) : FnO Try.prog 118 [.p [.sl (List.map cI.u8 c56_.gB), .int .i64 c56_.gI, .int .i64 c56_.gH] [], .v (.sl (List.map cI.i64 a57_)) []] (.v (.int .i64 r.2) []) [(0, .p [.sl (List.map cI.u8 r.1.gB), .int .i64 r.1.gI, .int .i64 r.1.gH] [])] := by
  refine FnO.of Try.func118 (rfl : Try.f118.body = some _) (Nat.le_of_ble_eq_true (by kernel_rfl)) (Nat.le_of_ble_eq_true (by kernel_rfl)) ?_
  intro w0 X0 Fin pv0 pb
  unfold pspec_l01PickInt at h
  refine Wc.seq ?_
  refine Wc.region [] [] [0, 1] [1000000] [] ⟨[(0, (.ptr 1000000 0, [])), (1, (.v (.sl (List.map cI.i64 a57_)), []))], [(1000000, .cells [.sl (List.map cI.u8 c56_.gB), .int .i64 c56_.gI, .int .i64 c56_.gH] [])], []⟩ _ (by kernel_rfl) .nil ?_
  refine Wc.seq ?_
  obtain ⟨d58_, h63, h⟩ := obind h
  obtain ⟨b59_, h64, h⟩ := obind h
  refine Wc.region [{}, {}, {}, { v := some (.int .i64 (a57_.length : Int)) }, { r := some (.v (.int .i64 d58_.2) []), outs := [(0, .p [.sl (List.map cI.u8 d58_.1.gB), .int .i64 d58_.1.gI, .int .i64 d58_.1.gH] [])] }, { v := some (.vptr [.int .i64 b59_]) }] [] [4] [1000000] [] ⟨[(4, (.v (.int .i64 b59_), []))], [(1000000, .cells [.sl (List.map cI.u8 d58_.1.gB), .int .i64 d58_.1.gI, .int .i64 d58_.1.gH] [])], []⟩ _ (by kernel_rfl) (.cons (len_obl cI.i64 a57_) (.cons (cspec_l01Below h63) (.cons (at_obl (c := cI.i64) rfl cI.i64_len h64) (.cons (len_ok 1 [.int .i64 b59_]) .nil)))) ?_
  refine Wc.ret ?_
  obtain rfl := Option.some.inj h
  exact ⟨.inl rfl, by kernel_rfl, by kernel_rfl⟩

/-- spec.l03Var -/
def pspec_l03Var (k : Nat) (b61_ : Int) : Option GTerm :=
  some (GTerm.mk 1 (bs []) b61_ [])
theorem cspec_l03Var {k : Nat} {b61_ : Int} {r : GTerm} (h : pspec_l03Var k b61_ = some r) : FnO Try.prog 140 [.v (.int .i64 b61_) []] (.v (.agg [.int .i64 r.gKind, .str r.gName, .int .i64 r.gNum, .sl (List.map GTerm.c r.gKids)]) [(3, .app 41)]) [] := by
  refine FnO.of Try.func140 (rfl : Try.f140.body = some _) (Nat.le_of_ble_eq_true (by kernel_rfl)) (Nat.le_of_ble_eq_true (by kernel_rfl)) ?_
  intro w0 X0 Fin pv0 pb
  unfold pspec_l03Var at h
  refine Wc.seq ?_
  refine Wc.region [] [] [0, 2] [2] [] ⟨[(0, (.v (.int .i64 b61_), [])), (2, (.ptr 2 0, []))], [(2, .cells [.int .i64 0, .str (bs []), .int .i64 0, .sl (List.map GTerm.c [])] [(3, .app 41)])], []⟩ _ (by kernel_rfl) .nil ?_
  refine Wc.seq ?_
  refine Wc.region [{}, {}, { tk := [4] }] [] [2] [2] [] ⟨[(2, (.ptr 2 0, []))], [(2, .cells [.int .i64 1, .str (bs []), .int .i64 b61_, .sl (List.map GTerm.c [])] [(3, .app 41)])], []⟩ _ (by kernel_rfl) .nil ?_
  refine Wc.ret ?_
  obtain rfl := Option.some.inj h
  exact ⟨.inl rfl, by kernel_rfl, by kernel_rfl⟩

/-- spec.l03Num -/
def pspec_l03Num (k : Nat) (b63_ : Int) : Option GTerm :=
  some (GTerm.mk 3 (bs []) b63_ [])
theorem cspec_l03Num {k : Nat} {b63_ : Int} {r : GTerm} (h : pspec_l03Num k b63_ = some r) : FnO Try.prog 153 [.v (.int .i64 b63_) []] (.v (.agg [.int .i64 r.gKind, .str r.gName, .int .i64 r.gNum, .sl (List.map GTerm.c r.gKids)]) [(3, .app 41)]) [] := by
  refine FnO.of Try.func153 (rfl : Try.f153.body = some _) (Nat.le_of_ble_eq_true (by kernel_rfl)) (Nat.le_of_ble_eq_true (by kernel_rfl)) ?_
  intro w0 X0 Fin pv0 pb
  unfold pspec_l03Num at h
  refine Wc.seq ?_
  refine Wc.region [] [] [0, 2] [2] [] ⟨[(0, (.v (.int .i64 b63_), [])), (2, (.ptr 2 0, []))], [(2, .cells [.int .i64 0, .str (bs []), .int .i64 0, .sl (List.map GTerm.c [])] [(3, .app 41)])], []⟩ _ (by kernel_rfl) .nil ?_
  refine Wc.seq ?_
  refine Wc.region [{}, {}, { tk := [4] }] [] [2] [2] [] ⟨[(2, (.ptr 2 0, []))], [(2, .cells [.int .i64 3, .str (bs []), .int .i64 b63_, .sl (List.map GTerm.c [])] [(3, .app 41)])], []⟩ _ (by kernel_rfl) .nil ?_
  refine Wc.ret ?_
  obtain rfl := Option.some.inj h
  exact ⟨.inl rfl, by kernel_rfl, by kernel_rfl⟩

def pspec_l03Made_L2 (k : Nat) (rspec_l03Made : GL01Cur → Int → Option (GL01Cur × GTerm)) (b90_ : Int) : Nat → Int → GTerm → GL01Cur → Option (Out (GL01Cur × GTerm) (GTerm × GL01Cur))
  | 0, _, _, _ => none
  | m + 1, b107_, f108_, c109_ =>
    (pspec_l01Below k c109_ 3).bind fun d112_ =>
    if (decide (b107_ < (wr.i64 (1 + d112_.2)))) = true then
      if (decide ((f108_.gKids.length : Int) < 5)) = true then
        (rspec_l03Made d112_.1 (wr.i64 (b90_ - 1))).bind fun l113_ =>
        if f108_.gKids.length + [l113_.2].length ≤ 1073741824 then
          pspec_l03Made_L2 k rspec_l03Made b90_ m (wr.i64 (b107_ + 1)) (GTerm.mk f108_.gKind f108_.gName f108_.gNum (f108_.gKids ++ [l113_.2])) l113_.1
        else none
      else
        pspec_l03Made_L2 k rspec_l03Made b90_ m (wr.i64 (b107_ + 1)) f108_ d112_.1
    else
      some (.done (f108_, d112_.1))
def pspec_l03Made_J1 (k : Nat) (rspec_l03Made : GL01Cur → Int → Option (GL01Cur × GTerm)) (d91_ : GL01Cur × Int) (b90_ : Int) (b92_ : Int) : Option (GL01Cur × GTerm) :=
  if (decide (b92_ < 2)) = true then
    (pspec_l01Below k d91_.1 4).bind fun d93_ =>
    (pspec_l03Var k d93_.2).bind fun f94_ =>
    some (d93_.1, f94_)
  else
    if (decide (b92_ < 4)) = true then
      if 0 ≤ (0 : Int) ∧ (0 : Int) ≤ 1 ∧ 1 ≤ ((bs [120, 32, 121]).size : Int) then
        (pspec_l01Pick k d91_.1 [(bs [97]), (bs [98]), (bs [91, 93]), (bs [43]), (bs [66, 105, 103]), (bs [120, 32, 121]).extract ((0 : Int) : Int).toNat (1 : Int).toNat, (bs [58, 45]), (bs [61, 46, 46])]).bind fun j95_ =>
        (pspec_l03Atom k j95_.2).bind fun f96_ =>
        some (j95_.1, f96_)
      else none
    else
      if (decide (b92_ < 6)) = true then
        (pspec_l01PickInt k d91_.1 [0, 1, -7, 999999999]).bind fun d97_ =>
        (pspec_l03Num k d97_.2).bind fun f98_ =>
        some (d97_.1, f98_)
      else
        if (b92_ == 6) = true then
          (rspec_l03Made d91_.1 (wr.i64 (b90_ - 1))).bind fun l99_ =>
          (rspec_l03Made l99_.1 (wr.i64 (b90_ - 1))).bind fun l100_ =>
          (pspec_l03Two k (bs [46]) l99_.2 l100_.2).bind fun f101_ =>
          some (l100_.1, f101_)
        else
          if (b92_ == 7) = true then
            (pspec_l01Pick k d91_.1 [(bs [43]), (bs [61]), (bs [44]), (bs [102]), (bs [59])]).bind fun j102_ =>
            (rspec_l03Made j102_.1 (wr.i64 (b90_ - 1))).bind fun l103_ =>
            (rspec_l03Made l103_.1 (wr.i64 (b90_ - 1))).bind fun l104_ =>
            (pspec_l03Two k j102_.2 l103_.2 l104_.2).bind fun f105_ =>
            some (l104_.1, f105_)
          else
            (pspec_l01Pick k d91_.1 [(bs [102]), (bs [103]), (bs [45]), (bs [91, 93])]).bind fun j106_ =>
            (pspec_l03Made_L2 k rspec_l03Made b90_ k 0 (GTerm.mk 4 j106_.2 0 []) j106_.1).bind fun out2 => match out2 with
            | .ret r => some r
            | .done (f110_, c111_) =>
              some (c111_, f110_)
mutual
/-- spec.l03Made -/
def pspec_l03Made : Nat → GL01Cur → Int → Option (GL01Cur × GTerm)
  | 0, _, _ => none
  | k + 1, c89_, b90_ =>
    (pspec_l01Below k c89_ 10).bind fun d91_ =>
    if (decide (b90_ ≤ 0)) = true then
      if (6 : Int) ≠ 0 then
        pspec_l03Made_J1 k (pspec_l03Made k) d91_ b90_ (Int.tmod d91_.2 6)
      else none
    else
      pspec_l03Made_J1 k (pspec_l03Made k) d91_ b90_ d91_.2
end
set_option maxHeartbeats 4000000 in
theorem all_pspec_l03Made : ∀ k : Nat, (∀ {c89_ : GL01Cur} {b90_ : Int} {r : GL01Cur × GTerm}, pspec_l03Made k c89_ b90_ = some r → FnO Try.prog 138 [.p [.sl (List.map cI.u8 c89_.gB), .int .i64 c89_.gI, .int .i64 c89_.gH] [], .v (.int .i64 b90_) []] (.v (.agg [.int .i64 r.2.gKind, .str r.2.gName, .int .i64 r.2.gNum, .sl (List.map GTerm.c r.2.gKids)]) [(3, .app 41)]) [(0, .p [.sl (List.map cI.u8 r.1.gB), .int .i64 r.1.gI, .int .i64 r.1.gH] [])]) := by
  intro k
  induction k with
  | zero =>
    · intro c89_ b90_ r h
      exact (onone (by rw [pspec_l03Made] at h; exact h)).elim
  | succ k ih =>
    have ih_pspec_l03Made := @ih
    · intro c89_ b90_ r h
      rw [pspec_l03Made] at h
      refine FnO.of Try.func138 (rfl : Try.f138.body = some _) (Nat.le_of_ble_eq_true (by kernel_rfl)) (Nat.le_of_ble_eq_true (by kernel_rfl)) ?_
      intro w0 X0 Fin pv0 pb
      refine Wc.seq ?_
      refine Wc.region [] [] [0, 1, 4] [4, 1000000] [] ⟨[(0, (.ptr 1000000 0, [])), (1, (.v (.int .i64 b90_), [])), (4, (.ptr 4 0, []))], [(4, .cells [.int .i64 0, .str (bs []), .int .i64 0, .sl (List.map GTerm.c [])] [(3, .app 41)]), (1000000, .cells [.sl (List.map cI.u8 c89_.gB), .int .i64 c89_.gI, .int .i64 c89_.gH] [])], []⟩ _ (by kernel_rfl) .nil ?_
      refine Wc.seq ?_
      obtain ⟨d91_, h94, h⟩ := obind h
      refine Wc.region [{}, { r := some (.v (.int .i64 d91_.2) []), outs := [(0, .p [.sl (List.map cI.u8 d91_.1.gB), .int .i64 d91_.1.gI, .int .i64 d91_.1.gH] [])] }] [] [0, 1, 4, 5] [4, 1000000] [] ⟨[(0, (.ptr 1000000 0, [])), (1, (.v (.int .i64 b90_), [])), (4, (.ptr 4 0, [])), (5, (.v (.int .i64 d91_.2), []))], [(4, .cells [.int .i64 0, .str (bs []), .int .i64 0, .sl (List.map GTerm.c [])] [(3, .app 41)]), (1000000, .cells [.sl (List.map cI.u8 d91_.1.gB), .int .i64 d91_.1.gI, .int .i64 d91_.1.gH] [])], []⟩ _ (by kernel_rfl) (.cons (cspec_l01Below h94) .nil) ?_
      refine Wc.seqJ (fun st => ∃ (b92_ : Int), st = ⟨[(0, (.ptr 1000000 0, [])), (1, (.v (.int .i64 b90_), [])), (4, (.ptr 4 0, [])), (5, (.v (.int .i64 b92_), []))], [(4, .cells [.int .i64 0, .str (bs []), .int .i64 0, .sl (List.map GTerm.c [])] [(3, .app 41)]), (1000000, .cells [.sl (List.map cI.u8 d91_.1.gB), .int .i64 d91_.1.gI, .int .i64 d91_.1.gH] [])], []⟩ ∧ pspec_l03Made_J1 k (pspec_l03Made k) d91_ b90_ b92_ = some r) ?_ ?_
      · refine Wc.seq ?_
        refine Wc.region [] [] [0, 1, 4, 5, 11] [4, 1000000] [] ⟨[(0, (.ptr 1000000 0, [])), (1, (.v (.int .i64 b90_), [])), (4, (.ptr 4 0, [])), (5, (.v (.int .i64 d91_.2), [])), (11, (.v (.bool (decide (b90_ ≤ 0))), []))], [(4, .cells [.int .i64 0, .str (bs []), .int .i64 0, .sl (List.map GTerm.c [])] [(3, .app 41)]), (1000000, .cells [.sl (List.map cI.u8 d91_.1.gB), .int .i64 d91_.1.gI, .int .i64 d91_.1.gH] [])], []⟩ _ (by kernel_rfl) .nil ?_
        rcases oif h with ⟨h121, h⟩ | ⟨h121, h⟩
        · refine Wc.condT h121 (by kernel_rfl) ?_
          obtain ⟨h122, h⟩ := oguard h
          refine Wc.region [] [] [0, 1, 4, 5] [4, 1000000] [] ⟨[(0, (.ptr 1000000 0, [])), (1, (.v (.int .i64 b90_), [])), (4, (.ptr 4 0, [])), (5, (.v (.int .i64 (Int.tmod d91_.2 6)), []))], [(4, .cells [.int .i64 0, .str (bs []), .int .i64 0, .sl (List.map GTerm.c [])] [(3, .app 41)]), (1000000, .cells [.sl (List.map cI.u8 d91_.1.gB), .int .i64 d91_.1.gI, .int .i64 d91_.1.gH] [])], []⟩ _ (by kernel_rfl) (.cons h122 .nil) ?_
          exact ⟨_, rfl, h⟩
        · refine Wc.condF h121 (by kernel_rfl) ?_
          refine Wc.fix (st' := ⟨[(0, (.ptr 1000000 0, [])), (1, (.v (.int .i64 b90_), [])), (4, (.ptr 4 0, [])), (5, (.v (.int .i64 d91_.2), []))], [(4, .cells [.int .i64 0, .str (bs []), .int .i64 0, .sl (List.map GTerm.c [])] [(3, .app 41)]), (1000000, .cells [.sl (List.map cI.u8 d91_.1.gB), .int .i64 d91_.1.gI, .int .i64 d91_.1.gH] [])], []⟩) [] [0, 1, 4, 5] [4, 1000000] [] (by kernel_rfl) ?_
          refine Wc.skip ?_
          exact ⟨_, rfl, h⟩
      · rintro st ⟨b92_, rfl, h⟩
        refine Wc.seq ?_
        refine Wc.block ?_
        refine Wc.seq ?_
        refine Wc.region [] [] [0, 1, 4, 5, 14] [4, 1000000] [] ⟨[(0, (.ptr 1000000 0, [])), (1, (.v (.int .i64 b90_), [])), (4, (.ptr 4 0, [])), (5, (.v (.int .i64 b92_), [])), (14, (.v (.bool (decide (b92_ < 2))), []))], [(4, .cells [.int .i64 0, .str (bs []), .int .i64 0, .sl (List.map GTerm.c [])] [(3, .app 41)]), (1000000, .cells [.sl (List.map cI.u8 d91_.1.gB), .int .i64 d91_.1.gI, .int .i64 d91_.1.gH] [])], []⟩ _ (by kernel_rfl) .nil ?_
        rcases oif h with ⟨h95, h⟩ | ⟨h95, h⟩
        · refine Wc.condT h95 (by kernel_rfl) ?_
          refine Wc.seq ?_
          obtain ⟨d93_, h96, h⟩ := obind h
          obtain ⟨f94_, h97, h⟩ := obind h
          refine Wc.region [{}, { r := some (.v (.int .i64 d93_.2) []), outs := [(0, .p [.sl (List.map cI.u8 d93_.1.gB), .int .i64 d93_.1.gI, .int .i64 d93_.1.gH] [])] }, { r := some (.v (.agg [.int .i64 f94_.gKind, .str f94_.gName, .int .i64 f94_.gNum, .sl (List.map GTerm.c f94_.gKids)]) [(3, .app 41)]) }, { tk := [19] }] [] [4] [4, 1000000] [] ⟨[(4, (.ptr 4 0, []))], [(4, .cells [.int .i64 f94_.gKind, .str f94_.gName, .int .i64 f94_.gNum, .sl (List.map GTerm.c f94_.gKids)] [(3, .app 41)]), (1000000, .cells [.sl (List.map cI.u8 d93_.1.gB), .int .i64 d93_.1.gI, .int .i64 d93_.1.gH] [])], []⟩ _ (by kernel_rfl) (.cons (cspec_l01Below h96) (.cons (cspec_l03Var h97) .nil)) ?_
          refine Wc.ret ?_
          obtain rfl := Option.some.inj h
          exact ⟨.inl rfl, by kernel_rfl, by kernel_rfl⟩
        · refine Wc.condF h95 (by kernel_rfl) ?_
          refine Wc.seq ?_
          refine Wc.region [] [] [0, 1, 4, 5, 20] [4, 1000000] [] ⟨[(0, (.ptr 1000000 0, [])), (1, (.v (.int .i64 b90_), [])), (4, (.ptr 4 0, [])), (5, (.v (.int .i64 b92_), [])), (20, (.v (.bool (decide (b92_ < 4))), []))], [(4, .cells [.int .i64 0, .str (bs []), .int .i64 0, .sl (List.map GTerm.c [])] [(3, .app 41)]), (1000000, .cells [.sl (List.map cI.u8 d91_.1.gB), .int .i64 d91_.1.gI, .int .i64 d91_.1.gH] [])], []⟩ _ (by kernel_rfl) .nil ?_
          rcases oif h with ⟨h98, h⟩ | ⟨h98, h⟩
          · refine Wc.condT h98 (by kernel_rfl) ?_
            refine Wc.seq ?_
            obtain ⟨h99, h⟩ := oguard h
            obtain ⟨j95_, h100, h⟩ := obind h
            obtain ⟨f96_, h101, h⟩ := obind h
            refine Wc.region [{}, {}, { c := some (List.map cS [(bs [97]), (bs [98]), (bs [91, 93]), (bs [43]), (bs [66, 105, 103]), (bs [120, 32, 121]).extract ((0 : Int) : Int).toNat (1 : Int).toNat, (bs [58, 45]), (bs [61, 46, 46])]) }, { r := some (.v (.str j95_.2) []), outs := [(0, .p [.sl (List.map cI.u8 j95_.1.gB), .int .i64 j95_.1.gI, .int .i64 j95_.1.gH] [])] }, { r := some (.v (.agg [.int .i64 f96_.gKind, .str f96_.gName, .int .i64 f96_.gNum, .sl (List.map GTerm.c f96_.gKids)]) [(3, .app 41)]) }, { tk := [27] }] [] [4] [4, 1000000] [] ⟨[(4, (.ptr 4 0, []))], [(4, .cells [.int .i64 f96_.gKind, .str f96_.gName, .int .i64 f96_.gNum, .sl (List.map GTerm.c f96_.gKids)] [(3, .app 41)]), (1000000, .cells [.sl (List.map cI.u8 j95_.1.gB), .int .i64 j95_.1.gI, .int .i64 j95_.1.gH] [])], []⟩ _ (by kernel_rfl) (.cons h99 (.cons (cl_cons (c := cS) (x := (bs [97])) rfl (cl_cons (c := cS) (x := (bs [98])) rfl (cl_cons (c := cS) (x := (bs [91, 93])) rfl (cl_cons (c := cS) (x := (bs [43])) rfl (cl_cons (c := cS) (x := (bs [66, 105, 103])) rfl (cl_cons (c := cS) (x := (bs [120, 32, 121]).extract ((0 : Int) : Int).toNat (1 : Int).toNat) rfl (cl_cons (c := cS) (x := (bs [58, 45])) rfl (cl_cons (c := cS) (x := (bs [61, 46, 46])) rfl (cl_nil cS))))))))) (.cons (cspec_l01Pick h100) (.cons (cspec_l03Atom h101) .nil)))) ?_
            refine Wc.ret ?_
            obtain rfl := Option.some.inj h
            exact ⟨.inl rfl, by kernel_rfl, by kernel_rfl⟩
          · refine Wc.condF h98 (by kernel_rfl) ?_
            refine Wc.seq ?_
            refine Wc.region [] [] [0, 1, 4, 5, 28] [4, 1000000] [] ⟨[(0, (.ptr 1000000 0, [])), (1, (.v (.int .i64 b90_), [])), (4, (.ptr 4 0, [])), (5, (.v (.int .i64 b92_), [])), (28, (.v (.bool (decide (b92_ < 6))), []))], [(4, .cells [.int .i64 0, .str (bs []), .int .i64 0, .sl (List.map GTerm.c [])] [(3, .app 41)]), (1000000, .cells [.sl (List.map cI.u8 d91_.1.gB), .int .i64 d91_.1.gI, .int .i64 d91_.1.gH] [])], []⟩ _ (by kernel_rfl) .nil ?_
            rcases oif h with ⟨h102, h⟩ | ⟨h102, h⟩
            · refine Wc.condT h102 (by kernel_rfl) ?_
              refine Wc.seq ?_
              obtain ⟨d97_, h103, h⟩ := obind h
              obtain ⟨f98_, h104, h⟩ := obind h
              refine Wc.region [{}, { c := some (List.map cI.i64 [0, 1, -7, 999999999]) }, { r := some (.v (.int .i64 d97_.2) []), outs := [(0, .p [.sl (List.map cI.u8 d97_.1.gB), .int .i64 d97_.1.gI, .int .i64 d97_.1.gH] [])] }, { r := some (.v (.agg [.int .i64 f98_.gKind, .str f98_.gName, .int .i64 f98_.gNum, .sl (List.map GTerm.c f98_.gKids)]) [(3, .app 41)]) }, { tk := [34] }] [] [4] [4, 1000000] [] ⟨[(4, (.ptr 4 0, []))], [(4, .cells [.int .i64 f98_.gKind, .str f98_.gName, .int .i64 f98_.gNum, .sl (List.map GTerm.c f98_.gKids)] [(3, .app 41)]), (1000000, .cells [.sl (List.map cI.u8 d97_.1.gB), .int .i64 d97_.1.gI, .int .i64 d97_.1.gH] [])], []⟩ _ (by kernel_rfl) (.cons (cl_cons (c := cI.i64) (x := 0) rfl (cl_cons (c := cI.i64) (x := 1) rfl (cl_cons (c := cI.i64) (x := -7) rfl (cl_cons (c := cI.i64) (x := 999999999) rfl (cl_nil cI.i64))))) (.cons (cspec_l01PickInt h103) (.cons (cspec_l03Num h104) .nil))) ?_
              refine Wc.ret ?_
              obtain rfl := Option.some.inj h
              exact ⟨.inl rfl, by kernel_rfl, by kernel_rfl⟩
            · refine Wc.condF h102 (by kernel_rfl) ?_
              refine Wc.seq ?_
              refine Wc.region [] [] [0, 1, 4, 5, 35] [4, 1000000] [] ⟨[(0, (.ptr 1000000 0, [])), (1, (.v (.int .i64 b90_), [])), (4, (.ptr 4 0, [])), (5, (.v (.int .i64 b92_), [])), (35, (.v (.bool (b92_ == 6)), []))], [(4, .cells [.int .i64 0, .str (bs []), .int .i64 0, .sl (List.map GTerm.c [])] [(3, .app 41)]), (1000000, .cells [.sl (List.map cI.u8 d91_.1.gB), .int .i64 d91_.1.gI, .int .i64 d91_.1.gH] [])], []⟩ _ (by kernel_rfl) .nil ?_
              rcases oif h with ⟨h105, h⟩ | ⟨h105, h⟩
              · refine Wc.condT h105 (by kernel_rfl) ?_
                refine Wc.seq ?_
                obtain ⟨l99_, h106, h⟩ := obind h
                obtain ⟨l100_, h107, h⟩ := obind h
                obtain ⟨f101_, h108, h⟩ := obind h
                refine Wc.region [{}, {}, {}, { r := some (.v (.agg [.int .i64 l99_.2.gKind, .str l99_.2.gName, .int .i64 l99_.2.gNum, .sl (List.map GTerm.c l99_.2.gKids)]) [(3, .app 41)]), outs := [(0, .p [.sl (List.map cI.u8 l99_.1.gB), .int .i64 l99_.1.gI, .int .i64 l99_.1.gH] [])] }, {}, {}, {}, { r := some (.v (.agg [.int .i64 l100_.2.gKind, .str l100_.2.gName, .int .i64 l100_.2.gNum, .sl (List.map GTerm.c l100_.2.gKids)]) [(3, .app 41)]), outs := [(0, .p [.sl (List.map cI.u8 l100_.1.gB), .int .i64 l100_.1.gI, .int .i64 l100_.1.gH] [])] }, { r := some (.v (.agg [.int .i64 f101_.gKind, .str f101_.gName, .int .i64 f101_.gNum, .sl (List.map GTerm.c f101_.gKids)]) [(3, .app 41)]) }, { tk := [46] }] [] [4] [4, 1000000] [] ⟨[(4, (.ptr 4 0, []))], [(4, .cells [.int .i64 f101_.gKind, .str f101_.gName, .int .i64 f101_.gNum, .sl (List.map GTerm.c f101_.gKids)] [(3, .app 41)]), (1000000, .cells [.sl (List.map cI.u8 l100_.1.gB), .int .i64 l100_.1.gI, .int .i64 l100_.1.gH] [])], []⟩ _ (by kernel_rfl) (.cons (ih_pspec_l03Made h106) (.cons (ih_pspec_l03Made h107) (.cons (cspec_l03Two h108) .nil))) ?_
                refine Wc.ret ?_
                obtain rfl := Option.some.inj h
                exact ⟨.inl rfl, by kernel_rfl, by kernel_rfl⟩
              · refine Wc.condF h105 (by kernel_rfl) ?_
                refine Wc.seq ?_
                refine Wc.region [] [] [0, 1, 4, 47] [4, 1000000] [] ⟨[(0, (.ptr 1000000 0, [])), (1, (.v (.int .i64 b90_), [])), (4, (.ptr 4 0, [])), (47, (.v (.bool (b92_ == 7)), []))], [(4, .cells [.int .i64 0, .str (bs []), .int .i64 0, .sl (List.map GTerm.c [])] [(3, .app 41)]), (1000000, .cells [.sl (List.map cI.u8 d91_.1.gB), .int .i64 d91_.1.gI, .int .i64 d91_.1.gH] [])], []⟩ _ (by kernel_rfl) .nil ?_
                rcases oif h with ⟨h109, h⟩ | ⟨h109, h⟩
                · refine Wc.condT h109 (by kernel_rfl) ?_
                  refine Wc.seq ?_
                  obtain ⟨j102_, h110, h⟩ := obind h
                  obtain ⟨l103_, h111, h⟩ := obind h
                  obtain ⟨l104_, h112, h⟩ := obind h
                  obtain ⟨f105_, h113, h⟩ := obind h
                  refine Wc.region [{}, { c := some (List.map cS [(bs [43]), (bs [61]), (bs [44]), (bs [102]), (bs [59])]) }, { r := some (.v (.str j102_.2) []), outs := [(0, .p [.sl (List.map cI.u8 j102_.1.gB), .int .i64 j102_.1.gI, .int .i64 j102_.1.gH] [])] }, {}, {}, {}, { r := some (.v (.agg [.int .i64 l103_.2.gKind, .str l103_.2.gName, .int .i64 l103_.2.gNum, .sl (List.map GTerm.c l103_.2.gKids)]) [(3, .app 41)]), outs := [(0, .p [.sl (List.map cI.u8 l103_.1.gB), .int .i64 l103_.1.gI, .int .i64 l103_.1.gH] [])] }, {}, {}, {}, { r := some (.v (.agg [.int .i64 l104_.2.gKind, .str l104_.2.gName, .int .i64 l104_.2.gNum, .sl (List.map GTerm.c l104_.2.gKids)]) [(3, .app 41)]), outs := [(0, .p [.sl (List.map cI.u8 l104_.1.gB), .int .i64 l104_.1.gI, .int .i64 l104_.1.gH] [])] }, { r := some (.v (.agg [.int .i64 f105_.gKind, .str f105_.gName, .int .i64 f105_.gNum, .sl (List.map GTerm.c f105_.gKids)]) [(3, .app 41)]) }, { tk := [61] }] [] [4] [4, 1000000] [] ⟨[(4, (.ptr 4 0, []))], [(4, .cells [.int .i64 f105_.gKind, .str f105_.gName, .int .i64 f105_.gNum, .sl (List.map GTerm.c f105_.gKids)] [(3, .app 41)]), (1000000, .cells [.sl (List.map cI.u8 l104_.1.gB), .int .i64 l104_.1.gI, .int .i64 l104_.1.gH] [])], []⟩ _ (by kernel_rfl) (.cons (cl_cons (c := cS) (x := (bs [43])) rfl (cl_cons (c := cS) (x := (bs [61])) rfl (cl_cons (c := cS) (x := (bs [44])) rfl (cl_cons (c := cS) (x := (bs [102])) rfl (cl_cons (c := cS) (x := (bs [59])) rfl (cl_nil cS)))))) (.cons (cspec_l01Pick h110) (.cons (ih_pspec_l03Made h111) (.cons (ih_pspec_l03Made h112) (.cons (cspec_l03Two h113) .nil))))) ?_
                  refine Wc.ret ?_
                  obtain rfl := Option.some.inj h
                  exact ⟨.inl rfl, by kernel_rfl, by kernel_rfl⟩
                · refine Wc.condF h109 (by kernel_rfl) ?_
                  refine Wc.fix (st' := ⟨[(0, (.ptr 1000000 0, [])), (1, (.v (.int .i64 b90_), [])), (4, (.ptr 4 0, []))], [(4, .cells [.int .i64 0, .str (bs []), .int .i64 0, .sl (List.map GTerm.c [])] [(3, .app 41)]), (1000000, .cells [.sl (List.map cI.u8 d91_.1.gB), .int .i64 d91_.1.gI, .int .i64 d91_.1.gH] [])], []⟩) [] [0, 1, 4] [4, 1000000] [] (by kernel_rfl) ?_
                  refine Wc.skip ?_
                  refine Wc.seq ?_
                  obtain ⟨j106_, h114, h⟩ := obind h
                  refine Wc.region [{}, { c := some (List.map cS [(bs [102]), (bs [103]), (bs [45]), (bs [91, 93])]) }, { r := some (.v (.str j106_.2) []), outs := [(0, .p [.sl (List.map cI.u8 j106_.1.gB), .int .i64 j106_.1.gI, .int .i64 j106_.1.gH] [])] }, {}, {}, { tk := [65] }] [] [0, 1, 4, 6] [4, 6, 1000000] [] ⟨[(0, (.ptr 1000000 0, [])), (1, (.v (.int .i64 b90_), [])), (4, (.ptr 4 0, [])), (6, (.ptr 6 0, []))], [(4, .cells [.int .i64 0, .str (bs []), .int .i64 0, .sl (List.map GTerm.c [])] [(3, .app 41)]), (6, .cells [.int .i64 4, .str j106_.2, .int .i64 0, .sl (List.map GTerm.c [])] [(3, .app 41)]), (1000000, .cells [.sl (List.map cI.u8 j106_.1.gB), .int .i64 j106_.1.gI, .int .i64 j106_.1.gH] [])], []⟩ _ (by kernel_rfl) (.cons (cl_cons (c := cS) (x := (bs [102])) rfl (cl_cons (c := cS) (x := (bs [103])) rfl (cl_cons (c := cS) (x := (bs [45])) rfl (cl_cons (c := cS) (x := (bs [91, 93])) rfl (cl_nil cS))))) (.cons (cspec_l01Pick h114) .nil)) ?_
                  refine Wc.seq ?_
                  refine Wc.seq ?_
                  refine Wc.region [] [] [0, 1, 4, 6, 7] [4, 6, 1000000] [] ⟨[(0, (.ptr 1000000 0, [])), (1, (.v (.int .i64 b90_), [])), (4, (.ptr 4 0, [])), (6, (.ptr 6 0, [])), (7, (.v (.int .i64 0), []))], [(4, .cells [.int .i64 0, .str (bs []), .int .i64 0, .sl (List.map GTerm.c [])] [(3, .app 41)]), (6, .cells [.int .i64 4, .str j106_.2, .int .i64 0, .sl (List.map GTerm.c [])] [(3, .app 41)]), (1000000, .cells [.sl (List.map cI.u8 j106_.1.gB), .int .i64 j106_.1.gI, .int .i64 j106_.1.gH] [])], []⟩ _ (by kernel_rfl) .nil ?_
                  obtain ⟨out2, h115, h⟩ := obind h
                  refine Wc.lastJ (fun st => ∃ (f110_ : GTerm) (c111_ : GL01Cur), out2 = .done (f110_, c111_) ∧ st = ⟨[(4, (.ptr 4 0, [])), (6, (.ptr 6 0, []))], [(4, .cells [.int .i64 0, .str (bs []), .int .i64 0, .sl (List.map GTerm.c [])] [(3, .app 41)]), (6, .cells [.int .i64 f110_.gKind, .str f110_.gName, .int .i64 f110_.gNum, .sl (List.map GTerm.c f110_.gKids)] [(3, .app 41)]), (1000000, .cells [.sl (List.map cI.u8 c111_.gB), .int .i64 c111_.gI, .int .i64 c111_.gH] [])], []⟩) ?_ ?_
                  · refine Wc.block ?_
                    refine Wc.loop (fun m st => ∃ (b107_ : Int) (f108_ : GTerm) (c109_ : GL01Cur), st = ⟨[(0, (.ptr 1000000 0, [])), (1, (.v (.int .i64 b90_), [])), (4, (.ptr 4 0, [])), (6, (.ptr 6 0, [])), (7, (.v (.int .i64 b107_), []))], [(4, .cells [.int .i64 0, .str (bs []), .int .i64 0, .sl (List.map GTerm.c [])] [(3, .app 41)]), (6, .cells [.int .i64 f108_.gKind, .str f108_.gName, .int .i64 f108_.gNum, .sl (List.map GTerm.c f108_.gKids)] [(3, .app 41)]), (1000000, .cells [.sl (List.map cI.u8 c109_.gB), .int .i64 c109_.gI, .int .i64 c109_.gH] [])], []⟩ ∧ pspec_l03Made_L2 k (pspec_l03Made k) b90_ m b107_ f108_ c109_ = some out2) ?_ k ⟨_, _, _, rfl, h115⟩
                    rintro m st ⟨b107_, f108_, c109_, rfl, h115⟩
                    cases m with
                    | zero => exact (onone h115).elim
                    | succ m =>
                      refine Wc.seq ?_
                      refine Wc.seq ?_
                      obtain ⟨d112_, h116, h115⟩ := obind h115
                      refine Wc.region [{}, {}, { r := some (.v (.int .i64 d112_.2) []), outs := [(0, .p [.sl (List.map cI.u8 d112_.1.gB), .int .i64 d112_.1.gI, .int .i64 d112_.1.gH] [])] }] [] [0, 1, 4, 6, 7, 70] [4, 6, 1000000] [] ⟨[(0, (.ptr 1000000 0, [])), (1, (.v (.int .i64 b90_), [])), (4, (.ptr 4 0, [])), (6, (.ptr 6 0, [])), (7, (.v (.int .i64 b107_), [])), (70, (.v (.bool (decide (b107_ < (wr.i64 (1 + d112_.2))))), []))], [(4, .cells [.int .i64 0, .str (bs []), .int .i64 0, .sl (List.map GTerm.c [])] [(3, .app 41)]), (6, .cells [.int .i64 f108_.gKind, .str f108_.gName, .int .i64 f108_.gNum, .sl (List.map GTerm.c f108_.gKids)] [(3, .app 41)]), (1000000, .cells [.sl (List.map cI.u8 d112_.1.gB), .int .i64 d112_.1.gI, .int .i64 d112_.1.gH] [])], []⟩ _ (by kernel_rfl) (.cons (cspec_l01Below h116) .nil) ?_
                      rcases oif h115 with ⟨h117, h115⟩ | ⟨h117, h115⟩
                      · refine Wc.condT h117 (by kernel_rfl) ?_
                        refine Wc.fix (st' := ⟨[(0, (.ptr 1000000 0, [])), (1, (.v (.int .i64 b90_), [])), (4, (.ptr 4 0, [])), (6, (.ptr 6 0, [])), (7, (.v (.int .i64 b107_), []))], [(4, .cells [.int .i64 0, .str (bs []), .int .i64 0, .sl (List.map GTerm.c [])] [(3, .app 41)]), (6, .cells [.int .i64 f108_.gKind, .str f108_.gName, .int .i64 f108_.gNum, .sl (List.map GTerm.c f108_.gKids)] [(3, .app 41)]), (1000000, .cells [.sl (List.map cI.u8 d112_.1.gB), .int .i64 d112_.1.gI, .int .i64 d112_.1.gH] [])], []⟩) [] [0, 1, 4, 6, 7] [4, 6, 1000000] [] (by kernel_rfl) ?_
                        refine Wc.skip ?_
                        refine Wc.seq ?_
                        refine Wc.block ?_
                        refine Wc.seq ?_
                        refine Wc.region [{}, {}, { v := some (.int .i64 (f108_.gKids.length : Int)) }] [] [0, 1, 4, 6, 7, 76] [4, 6, 1000000] [] ⟨[(0, (.ptr 1000000 0, [])), (1, (.v (.int .i64 b90_), [])), (4, (.ptr 4 0, [])), (6, (.ptr 6 0, [])), (7, (.v (.int .i64 b107_), [])), (76, (.v (.bool (decide ((f108_.gKids.length : Int) < 5))), []))], [(4, .cells [.int .i64 0, .str (bs []), .int .i64 0, .sl (List.map GTerm.c [])] [(3, .app 41)]), (6, .cells [.int .i64 f108_.gKind, .str f108_.gName, .int .i64 f108_.gNum, .sl (List.map GTerm.c f108_.gKids)] [(3, .app 41)]), (1000000, .cells [.sl (List.map cI.u8 d112_.1.gB), .int .i64 d112_.1.gI, .int .i64 d112_.1.gH] [])], []⟩ _ (by kernel_rfl) (.cons (len_obl GTerm.c f108_.gKids) .nil) ?_
                        rcases oif h115 with ⟨h118, h115⟩ | ⟨h118, h115⟩
                        · refine Wc.condT h118 (by kernel_rfl) ?_
                          obtain ⟨l113_, h119, h115⟩ := obind h115
                          obtain ⟨h120, h115⟩ := oguard h115
                          refine Wc.draw hmix [{}, { md := 1 }, {}, {}, {}, { r := some (.v (.agg [.int .i64 l113_.2.gKind, .str l113_.2.gName, .int .i64 l113_.2.gNum, .sl (List.map GTerm.c l113_.2.gKids)]) [(3, .app 41)]), outs := [(0, .p [.sl (List.map cI.u8 l113_.1.gB), .int .i64 l113_.1.gI, .int .i64 l113_.1.gH] [])] }, { c := some (List.map GTerm.c [l113_.2]) }, { c := some (List.map GTerm.c (f108_.gKids ++ [l113_.2])), tk := [78] }, {}, { tk := [84] }] [] [0, 1, 4, 6, 7] [4, 6, 1000000] [] ⟨[(0, (.ptr 1000000 0, [])), (1, (.v (.int .i64 b90_), [])), (4, (.ptr 4 0, [])), (6, (.ptr 6 0, [])), (7, (.v (.int .i64 b107_), []))], [(4, .cells [.int .i64 0, .str (bs []), .int .i64 0, .sl (List.map GTerm.c [])] [(3, .app 41)]), (6, .cells [.int .i64 f108_.gKind, .str f108_.gName, .int .i64 f108_.gNum, .sl (List.map GTerm.c (f108_.gKids ++ [l113_.2]))] [(3, .app 41)]), (1000000, .cells [.sl (List.map cI.u8 l113_.1.gB), .int .i64 l113_.1.gI, .int .i64 l113_.1.gH] [])], []⟩ _ (by kernel_rfl) (fun X => by kernel_rfl) (.cons (ih_pspec_l03Made h119) (.cons (cl_cons (c := GTerm.c) (x := l113_.2) (GTerm.c_eq l113_.2) (cl_nil GTerm.c)) (.cons (app_re2 GTerm.c f108_.gKids [l113_.2]) (.cons (app_leaf (c := GTerm.c) (ys := [l113_.2]) GTerm.c_leaf) (.cons (app_obl2 (c := GTerm.c) (xs := f108_.gKids) (ys := [l113_.2]) GTerm.c_len h120) .nil))))) ?_
                          refine Wc.region [] [] [0, 1, 4, 6, 7] [4, 6, 1000000] [] ⟨[(0, (.ptr 1000000 0, [])), (1, (.v (.int .i64 b90_), [])), (4, (.ptr 4 0, [])), (6, (.ptr 6 0, [])), (7, (.v (.int .i64 (wr.i64 (b107_ + 1))), []))], [(4, .cells [.int .i64 0, .str (bs []), .int .i64 0, .sl (List.map GTerm.c [])] [(3, .app 41)]), (6, .cells [.int .i64 f108_.gKind, .str f108_.gName, .int .i64 f108_.gNum, .sl (List.map GTerm.c (f108_.gKids ++ [l113_.2]))] [(3, .app 41)]), (1000000, .cells [.sl (List.map cI.u8 l113_.1.gB), .int .i64 l113_.1.gI, .int .i64 l113_.1.gH] [])], []⟩ _ (by kernel_rfl) .nil ?_
                          exact ⟨_, Nat.lt_succ_self _, _, _, _, rfl, h115⟩
                        · refine Wc.condF h118 (by kernel_rfl) ?_
                          refine Wc.fix (st' := ⟨[(0, (.ptr 1000000 0, [])), (1, (.v (.int .i64 b90_), [])), (4, (.ptr 4 0, [])), (6, (.ptr 6 0, [])), (7, (.v (.int .i64 b107_), []))], [(4, .cells [.int .i64 0, .str (bs []), .int .i64 0, .sl (List.map GTerm.c [])] [(3, .app 41)]), (6, .cells [.int .i64 f108_.gKind, .str f108_.gName, .int .i64 f108_.gNum, .sl (List.map GTerm.c f108_.gKids)] [(3, .app 41)]), (1000000, .cells [.sl (List.map cI.u8 d112_.1.gB), .int .i64 d112_.1.gI, .int .i64 d112_.1.gH] [])], []⟩) [] [0, 1, 4, 6, 7] [4, 6, 1000000] [] (by kernel_rfl) ?_
                          refine Wc.skip ?_
                          refine Wc.region [] [] [0, 1, 4, 6, 7] [4, 6, 1000000] [] ⟨[(0, (.ptr 1000000 0, [])), (1, (.v (.int .i64 b90_), [])), (4, (.ptr 4 0, [])), (6, (.ptr 6 0, [])), (7, (.v (.int .i64 (wr.i64 (b107_ + 1))), []))], [(4, .cells [.int .i64 0, .str (bs []), .int .i64 0, .sl (List.map GTerm.c [])] [(3, .app 41)]), (6, .cells [.int .i64 f108_.gKind, .str f108_.gName, .int .i64 f108_.gNum, .sl (List.map GTerm.c f108_.gKids)] [(3, .app 41)]), (1000000, .cells [.sl (List.map cI.u8 d112_.1.gB), .int .i64 d112_.1.gI, .int .i64 d112_.1.gH] [])], []⟩ _ (by kernel_rfl) .nil ?_
                          exact ⟨_, Nat.lt_succ_self _, _, _, _, rfl, h115⟩
                      · refine Wc.condF h117 (by kernel_rfl) ?_
                        refine Wc.fix (st' := ⟨[(4, (.ptr 4 0, [])), (6, (.ptr 6 0, []))], [(4, .cells [.int .i64 0, .str (bs []), .int .i64 0, .sl (List.map GTerm.c [])] [(3, .app 41)]), (6, .cells [.int .i64 f108_.gKind, .str f108_.gName, .int .i64 f108_.gNum, .sl (List.map GTerm.c f108_.gKids)] [(3, .app 41)]), (1000000, .cells [.sl (List.map cI.u8 d112_.1.gB), .int .i64 d112_.1.gI, .int .i64 d112_.1.gH] [])], []⟩) [] [4, 6] [4, 6, 1000000] [] (by kernel_rfl) ?_
                        refine Wc.exit ?_
                        obtain rfl := Option.some.inj h115
                        exact ⟨_, _, rfl, rfl⟩
                  · rintro st ⟨f110_, c111_, rfl, rfl⟩
                    refine Wc.seq ?_
                    refine Wc.region [{ md := 1 }, { tk := [86] }] [] [4] [4, 1000000] [] ⟨[(4, (.ptr 4 0, []))], [(4, .cells [.int .i64 f110_.gKind, .str f110_.gName, .int .i64 f110_.gNum, .sl (List.map GTerm.c f110_.gKids)] [(3, .app 41)]), (1000000, .cells [.sl (List.map cI.u8 c111_.gB), .int .i64 c111_.gI, .int .i64 c111_.gH] [])], []⟩ _ (by kernel_rfl) .nil ?_
                    refine Wc.ret ?_
                    obtain rfl := Option.some.inj h
                    exact ⟨.inl rfl, by kernel_rfl, by kernel_rfl⟩
theorem cspec_l03Made {k : Nat} {c89_ : GL01Cur} {b90_ : Int} {r : GL01Cur × GTerm} (h : pspec_l03Made k c89_ b90_ = some r) : FnO Try.prog 138 [.p [.sl (List.map cI.u8 c89_.gB), .int .i64 c89_.gI, .int .i64 c89_.gH] [], .v (.int .i64 b90_) []] (.v (.agg [.int .i64 r.2.gKind, .str r.2.gName, .int .i64 r.2.gNum, .sl (List.map GTerm.c r.2.gKids)]) [(3, .app 41)]) [(0, .p [.sl (List.map cI.u8 r.1.gB), .int .i64 r.1.gI, .int .i64 r.1.gH] [])] := (all_pspec_l03Made k) h

/-- spec.l03Term -/
def pspec_l03Term (k : Nat) (c118_ : GL01Cur) : Option (GL01Cur × GTerm) :=
  (pspec_l03Made k c118_ 3).bind fun l119_ =>
  (pspec_TermOk k l119_.2).bind fun g120_ =>
  if g120_ = true then
    some (l119_.1, l119_.2)
  else
    (pspec_l03Atom k (bs [97])).bind fun f121_ =>
    some (l119_.1, f121_)
theorem cspec_l03Term {k : Nat} {c118_ : GL01Cur} {r : GL01Cur × GTerm} (h : pspec_l03Term k c118_ = some r) : FnO Try.prog 96 [.p [.sl (List.map cI.u8 c118_.gB), .int .i64 c118_.gI, .int .i64 c118_.gH] []] (.v (.agg [.int .i64 r.2.gKind, .str r.2.gName, .int .i64 r.2.gNum, .sl (List.map GTerm.c r.2.gKids)]) [(3, .app 41)]) [(0, .p [.sl (List.map cI.u8 r.1.gB), .int .i64 r.1.gI, .int .i64 r.1.gH] [])] := by
  refine FnO.of Try.func96 (rfl : Try.f96.body = some _) (Nat.le_of_ble_eq_true (by kernel_rfl)) (Nat.le_of_ble_eq_true (by kernel_rfl)) ?_
  intro w0 X0 Fin pv0 pb
  unfold pspec_l03Term at h
  refine Wc.seq ?_
  refine Wc.region [] [] [0, 2] [2, 1000000] [] ⟨[(0, (.ptr 1000000 0, [])), (2, (.ptr 2 0, []))], [(2, .cells [.int .i64 0, .str (bs []), .int .i64 0, .sl (List.map GTerm.c [])] [(3, .app 41)]), (1000000, .cells [.sl (List.map cI.u8 c118_.gB), .int .i64 c118_.gI, .int .i64 c118_.gH] [])], []⟩ _ (by kernel_rfl) .nil ?_
  refine Wc.seq ?_
  obtain ⟨l119_, h127, h⟩ := obind h
  refine Wc.region [{}, { r := some (.v (.agg [.int .i64 l119_.2.gKind, .str l119_.2.gName, .int .i64 l119_.2.gNum, .sl (List.map GTerm.c l119_.2.gKids)]) [(3, .app 41)]), outs := [(0, .p [.sl (List.map cI.u8 l119_.1.gB), .int .i64 l119_.1.gI, .int .i64 l119_.1.gH] [])] }, {}, { tk := [5] }] [] [2, 3] [2, 3, 1000000] [] ⟨[(2, (.ptr 2 0, [])), (3, (.ptr 3 0, []))], [(2, .cells [.int .i64 0, .str (bs []), .int .i64 0, .sl (List.map GTerm.c [])] [(3, .app 41)]), (3, .cells [.int .i64 l119_.2.gKind, .str l119_.2.gName, .int .i64 l119_.2.gNum, .sl (List.map GTerm.c l119_.2.gKids)] [(3, .app 41)]), (1000000, .cells [.sl (List.map cI.u8 l119_.1.gB), .int .i64 l119_.1.gI, .int .i64 l119_.1.gH] [])], []⟩ _ (by kernel_rfl) (.cons (cspec_l03Made h127) .nil) ?_
  refine Wc.seq ?_
  refine Wc.seq ?_
  obtain ⟨g120_, h128, h⟩ := obind h
  refine Wc.region [{}, { r := some (.v (.bool g120_) []) }] [] [2, 3, 7] [2, 3, 1000000] [] ⟨[(2, (.ptr 2 0, [])), (3, (.ptr 3 0, [])), (7, (.v (.bool g120_), []))], [(2, .cells [.int .i64 0, .str (bs []), .int .i64 0, .sl (List.map GTerm.c [])] [(3, .app 41)]), (3, .cells [.int .i64 l119_.2.gKind, .str l119_.2.gName, .int .i64 l119_.2.gNum, .sl (List.map GTerm.c l119_.2.gKids)] [(3, .app 41)]), (1000000, .cells [.sl (List.map cI.u8 l119_.1.gB), .int .i64 l119_.1.gI, .int .i64 l119_.1.gH] [])], []⟩ _ (by kernel_rfl) (.cons (cspec_TermOk h128) .nil) ?_
  rcases oif h with ⟨h129, h⟩ | ⟨h129, h⟩
  · refine Wc.condT h129 (by kernel_rfl) ?_
    refine Wc.seq ?_
    refine Wc.region [{ md := 1 }, { tk := [8] }] [] [2] [2, 1000000] [] ⟨[(2, (.ptr 2 0, []))], [(2, .cells [.int .i64 l119_.2.gKind, .str l119_.2.gName, .int .i64 l119_.2.gNum, .sl (List.map GTerm.c l119_.2.gKids)] [(3, .app 41)]), (1000000, .cells [.sl (List.map cI.u8 l119_.1.gB), .int .i64 l119_.1.gI, .int .i64 l119_.1.gH] [])], []⟩ _ (by kernel_rfl) .nil ?_
    refine Wc.ret ?_
    obtain rfl := Option.some.inj h
    exact ⟨.inl rfl, by kernel_rfl, by kernel_rfl⟩
  · refine Wc.condF h129 (by kernel_rfl) ?_
    refine Wc.fix (st' := ⟨[(2, (.ptr 2 0, []))], [(2, .cells [.int .i64 0, .str (bs []), .int .i64 0, .sl (List.map GTerm.c [])] [(3, .app 41)]), (1000000, .cells [.sl (List.map cI.u8 l119_.1.gB), .int .i64 l119_.1.gI, .int .i64 l119_.1.gH] [])], []⟩) [] [2] [2, 1000000] [] (by kernel_rfl) ?_
    refine Wc.skip ?_
    refine Wc.seq ?_
    obtain ⟨f121_, h130, h⟩ := obind h
    refine Wc.region [{ r := some (.v (.agg [.int .i64 f121_.gKind, .str f121_.gName, .int .i64 f121_.gNum, .sl (List.map GTerm.c f121_.gKids)]) [(3, .app 41)]) }, { tk := [9] }] [] [2] [2, 1000000] [] ⟨[(2, (.ptr 2 0, []))], [(2, .cells [.int .i64 f121_.gKind, .str f121_.gName, .int .i64 f121_.gNum, .sl (List.map GTerm.c f121_.gKids)] [(3, .app 41)]), (1000000, .cells [.sl (List.map cI.u8 l119_.1.gB), .int .i64 l119_.1.gI, .int .i64 l119_.1.gH] [])], []⟩ _ (by kernel_rfl) (.cons (cspec_l03Atom h130) .nil) ?_
    refine Wc.ret ?_
    obtain rfl := Option.some.inj h
    exact ⟨.inl rfl, by kernel_rfl, by kernel_rfl⟩

/-- spec.l01Once -/
def pspec_l01Once (k : Nat) (c122_ : GL01Cur) (b123_ : Int) : Option (GL01Cur × Bool) :=
  (pspec_l01Below k c122_ b123_).bind fun d124_ =>
  some (d124_.1, (d124_.2 == 0))
theorem cspec_l01Once {k : Nat} {c122_ : GL01Cur} {b123_ : Int} {r : GL01Cur × Bool} (h : pspec_l01Once k c122_ b123_ = some r) : FnO Try.prog 100 [.p [.sl (List.map cI.u8 c122_.gB), .int .i64 c122_.gI, .int .i64 c122_.gH] [], .v (.int .i64 b123_) []] (.v (.bool r.2) []) [(0, .p [.sl (List.map cI.u8 r.1.gB), .int .i64 r.1.gI, .int .i64 r.1.gH] [])] := by
  refine FnO.of Try.func100 (rfl : Try.f100.body = some _) (Nat.le_of_ble_eq_true (by kernel_rfl)) (Nat.le_of_ble_eq_true (by kernel_rfl)) ?_
  intro w0 X0 Fin pv0 pb
  unfold pspec_l01Once at h
  refine Wc.seq ?_
  refine Wc.region [] [] [0, 1] [1000000] [] ⟨[(0, (.ptr 1000000 0, [])), (1, (.v (.int .i64 b123_), []))], [(1000000, .cells [.sl (List.map cI.u8 c122_.gB), .int .i64 c122_.gI, .int .i64 c122_.gH] [])], []⟩ _ (by kernel_rfl) .nil ?_
  refine Wc.seq ?_
  obtain ⟨d124_, h131, h⟩ := obind h
  refine Wc.region [{}, {}, { r := some (.v (.int .i64 d124_.2) []), outs := [(0, .p [.sl (List.map cI.u8 d124_.1.gB), .int .i64 d124_.1.gI, .int .i64 d124_.1.gH] [])] }] [] [4] [1000000] [] ⟨[(4, (.v (.bool (d124_.2 == 0)), []))], [(1000000, .cells [.sl (List.map cI.u8 d124_.1.gB), .int .i64 d124_.1.gI, .int .i64 d124_.1.gH] [])], []⟩ _ (by kernel_rfl) (.cons (cspec_l01Below h131) .nil) ?_
  refine Wc.ret ?_
  obtain rfl := Option.some.inj h
  exact ⟨.inl rfl, by kernel_rfl, by kernel_rfl⟩

def pspec_l21Terms_L1 (k : Nat) : Nat → (List GTerm) → Int → GL01Cur → Option (Out (GL01Cur × (List GTerm)) ((List GTerm) × GL01Cur))
  | 0, _, _, _ => none
  | m + 1, m126_, b127_, c128_ =>
    (pspec_l01Below k c128_ 5).bind fun d131_ =>
    if (decide (b127_ < d131_.2)) = true then
      (pspec_l03Term k d131_.1).bind fun l132_ =>
      if m126_.length + [l132_.2].length ≤ 1073741824 then
        pspec_l21Terms_L1 k m (m126_ ++ [l132_.2]) (wr.i64 (b127_ + 1)) l132_.1
      else none
    else
      some (.done (m126_, d131_.1))
def pspec_l21Terms_J2 (k : Nat) (m129_ : List GTerm) (g133_ : Bool) (c134_ : GL01Cur) : Option (GL01Cur × (List GTerm)) :=
  if g133_ = true then
    (at' m129_ 0).bind fun f135_ =>
    if m129_.length + [f135_].length ≤ 1073741824 then
      some (c134_, m129_ ++ [f135_])
    else none
  else
    some (c134_, m129_)
/-- spec.l21Terms -/
def pspec_l21Terms (k : Nat) (c125_ : GL01Cur) : Option (GL01Cur × (List GTerm)) :=
  (pspec_l21Terms_L1 k k [] 0 c125_).bind fun out1 => match out1 with
  | .ret r => some r
  | .done (m129_, c130_) =>
    if (decide ((m129_.length : Int) > 0)) = true then
      (pspec_l01Once k c130_ 3).bind fun n136_ =>
      pspec_l21Terms_J2 k m129_ n136_.2 n136_.1
    else
      pspec_l21Terms_J2 k m129_ false c130_
theorem cspec_l21Terms {k : Nat} {c125_ : GL01Cur} {r : GL01Cur × (List GTerm)} (h : pspec_l21Terms k c125_ = some r) : FnO Try.prog 69 [.p [.sl (List.map cI.u8 c125_.gB), .int .i64 c125_.gI, .int .i64 c125_.gH] []] (.v (.sl (List.map GTerm.c r.2)) []) [(0, .p [.sl (List.map cI.u8 r.1.gB), .int .i64 r.1.gI, .int .i64 r.1.gH] [])] := by
  refine FnO.of Try.func69 (rfl : Try.f69.body = some _) (Nat.le_of_ble_eq_true (by kernel_rfl)) (Nat.le_of_ble_eq_true (by kernel_rfl)) ?_
  intro w0 X0 Fin pv0 pb
  unfold pspec_l21Terms at h
  refine Wc.seq ?_
  refine Wc.region [] [] [0] [1000000] [] ⟨[(0, (.ptr 1000000 0, []))], [(1000000, .cells [.sl (List.map cI.u8 c125_.gB), .int .i64 c125_.gI, .int .i64 c125_.gH] [])], []⟩ _ (by kernel_rfl) .nil ?_
  refine Wc.seq ?_
  refine Wc.region [{ c := some (List.map GTerm.c []), md := 1 }, { tk := [5] }] [] [0, 3] [1000000] [] ⟨[(0, (.ptr 1000000 0, [])), (3, (.v (.slx), [(0, .ex 41 false (List.map GTerm.c []))]))], [(1000000, .cells [.sl (List.map cI.u8 c125_.gB), .int .i64 c125_.gI, .int .i64 c125_.gH] [])], []⟩ _ (by kernel_rfl) (.cons (cl_nil GTerm.c) .nil) ?_
  refine Wc.seq ?_
  refine Wc.seq ?_
  refine Wc.region [] [] [0, 3, 4] [1000000] [] ⟨[(0, (.ptr 1000000 0, [])), (3, (.v (.slx), [(0, .ex 41 false (List.map GTerm.c []))])), (4, (.v (.int .i64 0), []))], [(1000000, .cells [.sl (List.map cI.u8 c125_.gB), .int .i64 c125_.gI, .int .i64 c125_.gH] [])], []⟩ _ (by kernel_rfl) .nil ?_
  obtain ⟨out1, h132, h⟩ := obind h
  refine Wc.lastJ (fun st => ∃ (m129_ : List GTerm) (c130_ : GL01Cur), out1 = .done (m129_, c130_) ∧ st = ⟨[(0, (.ptr 1000000 0, [])), (3, (.v (.slx), [(0, .ex 41 false (List.map GTerm.c m129_))]))], [(1000000, .cells [.sl (List.map cI.u8 c130_.gB), .int .i64 c130_.gI, .int .i64 c130_.gH] [])], []⟩) ?_ ?_
  · refine Wc.block ?_
    refine Wc.loop (fun m st => ∃ (m126_ : List GTerm) (b127_ : Int) (c128_ : GL01Cur), st = ⟨[(0, (.ptr 1000000 0, [])), (3, (.v (.slx), [(0, .ex 41 false (List.map GTerm.c m126_))])), (4, (.v (.int .i64 b127_), []))], [(1000000, .cells [.sl (List.map cI.u8 c128_.gB), .int .i64 c128_.gI, .int .i64 c128_.gH] [])], []⟩ ∧ pspec_l21Terms_L1 k m m126_ b127_ c128_ = some out1) ?_ k ⟨_, _, _, rfl, h132⟩
    rintro m st ⟨m126_, b127_, c128_, rfl, h132⟩
    cases m with
    | zero => exact (onone h132).elim
    | succ m =>
      refine Wc.seq ?_
      refine Wc.seq ?_
      obtain ⟨d131_, h133, h132⟩ := obind h132
      refine Wc.region [{}, {}, { r := some (.v (.int .i64 d131_.2) []), outs := [(0, .p [.sl (List.map cI.u8 d131_.1.gB), .int .i64 d131_.1.gI, .int .i64 d131_.1.gH] [])] }] [] [0, 3, 4, 9] [1000000] [] ⟨[(0, (.ptr 1000000 0, [])), (3, (.v (.slx), [(0, .ex 41 false (List.map GTerm.c m126_))])), (4, (.v (.int .i64 b127_), [])), (9, (.v (.bool (decide (b127_ < d131_.2))), []))], [(1000000, .cells [.sl (List.map cI.u8 d131_.1.gB), .int .i64 d131_.1.gI, .int .i64 d131_.1.gH] [])], []⟩ _ (by kernel_rfl) (.cons (cspec_l01Below h133) .nil) ?_
      rcases oif h132 with ⟨h134, h132⟩ | ⟨h134, h132⟩
      · refine Wc.condT h134 (by kernel_rfl) ?_
        refine Wc.fix (st' := ⟨[(0, (.ptr 1000000 0, [])), (3, (.v (.slx), [(0, .ex 41 false (List.map GTerm.c m126_))])), (4, (.v (.int .i64 b127_), []))], [(1000000, .cells [.sl (List.map cI.u8 d131_.1.gB), .int .i64 d131_.1.gI, .int .i64 d131_.1.gH] [])], []⟩) [] [0, 3, 4] [1000000] [] (by kernel_rfl) ?_
        refine Wc.skip ?_
        refine Wc.seq ?_
        refine Wc.block ?_
        obtain ⟨l132_, h135, h132⟩ := obind h132
        obtain ⟨h136, h132⟩ := oguard h132
        refine Wc.region [{ tk := [3] }, {}, { r := some (.v (.agg [.int .i64 l132_.2.gKind, .str l132_.2.gName, .int .i64 l132_.2.gNum, .sl (List.map GTerm.c l132_.2.gKids)]) [(3, .app 41)]), outs := [(0, .p [.sl (List.map cI.u8 l132_.1.gB), .int .i64 l132_.1.gI, .int .i64 l132_.1.gH] [])] }, { c := some (List.map GTerm.c [l132_.2]) }, { c := some (List.map GTerm.c (m126_ ++ [l132_.2])), tk := [12], md := 1 }, { tk := [16] }] [] [0, 3, 4] [1000000] [] ⟨[(0, (.ptr 1000000 0, [])), (3, (.v (.slx), [(0, .ex 41 false (List.map GTerm.c (m126_ ++ [l132_.2])))])), (4, (.v (.int .i64 b127_), []))], [(1000000, .cells [.sl (List.map cI.u8 l132_.1.gB), .int .i64 l132_.1.gI, .int .i64 l132_.1.gH] [])], []⟩ _ (by kernel_rfl) (.cons (cspec_l03Term h135) (.cons (cl_cons (c := GTerm.c) (x := l132_.2) (GTerm.c_eq l132_.2) (cl_nil GTerm.c)) (.cons (app_re2 GTerm.c m126_ [l132_.2]) (.cons (app_leaf (c := GTerm.c) (ys := [l132_.2]) GTerm.c_leaf) (.cons (app_obl2 (c := GTerm.c) (xs := m126_) (ys := [l132_.2]) GTerm.c_len h136) .nil))))) ?_
        refine Wc.region [] [] [0, 3, 4] [1000000] [] ⟨[(0, (.ptr 1000000 0, [])), (3, (.v (.slx), [(0, .ex 41 false (List.map GTerm.c (m126_ ++ [l132_.2])))])), (4, (.v (.int .i64 (wr.i64 (b127_ + 1))), []))], [(1000000, .cells [.sl (List.map cI.u8 l132_.1.gB), .int .i64 l132_.1.gI, .int .i64 l132_.1.gH] [])], []⟩ _ (by kernel_rfl) .nil ?_
        exact ⟨_, Nat.lt_succ_self _, _, _, _, rfl, h132⟩
      · refine Wc.condF h134 (by kernel_rfl) ?_
        refine Wc.fix (st' := ⟨[(0, (.ptr 1000000 0, [])), (3, (.v (.slx), [(0, .ex 41 false (List.map GTerm.c m126_))]))], [(1000000, .cells [.sl (List.map cI.u8 d131_.1.gB), .int .i64 d131_.1.gI, .int .i64 d131_.1.gH] [])], []⟩) [] [0, 3] [1000000] [] (by kernel_rfl) ?_
        refine Wc.exit ?_
        obtain rfl := Option.some.inj h132
        exact ⟨_, _, rfl, rfl⟩
  · rintro st ⟨m129_, c130_, rfl, rfl⟩
    refine Wc.seq ?_
    refine Wc.seqJ (fun st => ∃ (g133_ : Bool) (c134_ : GL01Cur), st = ⟨[(3, (.v (.slx), [(0, .ex 41 false (List.map GTerm.c m129_))])), (23, (.v (.bool g133_), []))], [(1000000, .cells [.sl (List.map cI.u8 c134_.gB), .int .i64 c134_.gI, .int .i64 c134_.gH] [])], []⟩ ∧ pspec_l21Terms_J2 k m129_ g133_ c134_ = some r) ?_ ?_
    · rcases oif h with ⟨h140, h⟩ | ⟨h140, h⟩
      · obtain ⟨n136_, h141, h⟩ := obind h
        refine Wc.region [{}, { v := some (.int .i64 (m129_.length : Int)) }, {}, { re := some (.bool true) }, {}, { r := some (.v (.bool n136_.2) []), outs := [(0, .p [.sl (List.map cI.u8 n136_.1.gB), .int .i64 n136_.1.gI, .int .i64 n136_.1.gH] [])] }] [] [3, 23] [1000000] [] ⟨[(3, (.v (.slx), [(0, .ex 41 false (List.map GTerm.c m129_))])), (23, (.v (.bool n136_.2), []))], [(1000000, .cells [.sl (List.map cI.u8 n136_.1.gB), .int .i64 n136_.1.gI, .int .i64 n136_.1.gH] [])], []⟩ _ (by kernel_rfl) (.cons (len_obl GTerm.c m129_) (.cons (congrArg AV.bool h140) (.cons (cspec_l01Once h141) .nil))) ?_
        exact ⟨_, _, rfl, h⟩
      · refine Wc.region [{}, { v := some (.int .i64 (m129_.length : Int)) }, {}, { re := some (.bool false) }] [] [3, 23] [1000000] [] ⟨[(3, (.v (.slx), [(0, .ex 41 false (List.map GTerm.c m129_))])), (23, (.v (.bool false), []))], [(1000000, .cells [.sl (List.map cI.u8 c130_.gB), .int .i64 c130_.gI, .int .i64 c130_.gH] [])], []⟩ _ (by kernel_rfl) (.cons (len_obl GTerm.c m129_) (.cons (congrArg AV.bool h140) .nil)) ?_
        exact ⟨_, _, rfl, h⟩
    · rintro st ⟨g133_, c134_, rfl, h⟩
      rcases oif h with ⟨h137, h⟩ | ⟨h137, h⟩
      · refine Wc.condT h137 (by kernel_rfl) ?_
        obtain ⟨f135_, h138, h⟩ := obind h
        obtain ⟨h139, h⟩ := oguard h
        refine Wc.region [{}, {}, {}, { v := some (.agg [.int .i64 f135_.gKind, .str f135_.gName, .int .i64 f135_.gNum, .sl (List.map GTerm.c f135_.gKids)]) }, { c := some (List.map GTerm.c [f135_]) }, { c := some (List.map GTerm.c (m129_ ++ [f135_])), tk := [24], md := 1, fx := [.pl 24] }, { tk := [29] }] [] [3] [1000000] [] ⟨[(3, (.v (.slx), [(0, .ex 41 false (List.map GTerm.c (m129_ ++ [f135_])))]))], [(1000000, .cells [.sl (List.map cI.u8 c134_.gB), .int .i64 c134_.gI, .int .i64 c134_.gH] [])], []⟩ _ (by kernel_rfl) (.cons (ix_obl (c := GTerm.c) GTerm.c_len h138) (.cons (el_obl (sz := 4) (off := 0) (s := 4) (ag := true) (v := .agg [.int .i64 f135_.gKind, .str f135_.gName, .int .i64 f135_.gNum, .sl (List.map GTerm.c f135_.gKids)]) (c := GTerm.c) (GTerm.c_eq f135_) (at'_spec h138).2 rfl (Nat.le_of_ble_eq_true rfl) rfl) (.cons (cl_cons (c := GTerm.c) (x := f135_) (GTerm.c_eq f135_) (cl_nil GTerm.c)) (.cons (app_re2 GTerm.c m129_ [f135_]) (.cons (app_leaf (c := GTerm.c) (ys := [f135_]) GTerm.c_leaf) (.cons (app_obl2 (c := GTerm.c) (xs := m129_) (ys := [f135_]) GTerm.c_len h139) .nil)))))) ?_
        refine Wc.seq ?_
        refine Wc.region [{ tk := [3] }, { tk := [30] }] [] [2] [1000000] [] ⟨[(2, (.v (.slx), [(0, .ex 41 false (List.map GTerm.c (m129_ ++ [f135_])))]))], [(1000000, .cells [.sl (List.map cI.u8 c134_.gB), .int .i64 c134_.gI, .int .i64 c134_.gH] [])], []⟩ _ (by kernel_rfl) .nil ?_
        refine Wc.fix (st' := ⟨[(2, (.v (.sl (List.map GTerm.c (m129_ ++ [f135_]))), []))], [(1000000, .cells [.sl (List.map cI.u8 c134_.gB), .int .i64 c134_.gI, .int .i64 c134_.gH] [])], []⟩) [.sh (.t 2 0)] [2] [1000000] [] (by kernel_rfl) ?_
        refine Wc.ret ?_
        obtain rfl := Option.some.inj h
        exact ⟨.inl rfl, by kernel_rfl, by kernel_rfl⟩
      · refine Wc.condF h137 (by kernel_rfl) ?_
        refine Wc.fix (st' := ⟨[(3, (.v (.slx), [(0, .ex 41 false (List.map GTerm.c m129_))]))], [(1000000, .cells [.sl (List.map cI.u8 c134_.gB), .int .i64 c134_.gI, .int .i64 c134_.gH] [])], []⟩) [] [3] [1000000] [] (by kernel_rfl) ?_
        refine Wc.skip ?_
        refine Wc.seq ?_
        refine Wc.region [{ tk := [3] }, { tk := [30] }] [] [2] [1000000] [] ⟨[(2, (.v (.slx), [(0, .ex 41 false (List.map GTerm.c m129_))]))], [(1000000, .cells [.sl (List.map cI.u8 c134_.gB), .int .i64 c134_.gI, .int .i64 c134_.gH] [])], []⟩ _ (by kernel_rfl) .nil ?_
        refine Wc.fix (st' := ⟨[(2, (.v (.sl (List.map GTerm.c m129_)), []))], [(1000000, .cells [.sl (List.map cI.u8 c134_.gB), .int .i64 c134_.gI, .int .i64 c134_.gH] [])], []⟩) [.sh (.t 2 0)] [2] [1000000] [] (by kernel_rfl) ?_
        refine Wc.ret ?_
        obtain rfl := Option.some.inj h
        exact ⟨.inl rfl, by kernel_rfl, by kernel_rfl⟩

/-- spec.DrawTermList -/
def pspec_DrawTermList (k : Nat) (a137_ : List Int) : Option (List GTerm) :=
  (pspec_l01New k a137_).bind fun c138_ =>
  (pspec_l21Terms k c138_).bind fun o139_ =>
  some o139_.2
theorem cspec_DrawTermList {k : Nat} {a137_ : List Int} {r : (List GTerm)} (h : pspec_DrawTermList k a137_ = some r) : FnO Try.prog 19 [.v (.sl (List.map cI.u8 a137_)) []] (.v (.sl (List.map GTerm.c r)) []) [] := by
  refine FnO.of Try.func19 (rfl : Try.f19.body = some _) (Nat.le_of_ble_eq_true (by kernel_rfl)) (Nat.le_of_ble_eq_true (by kernel_rfl)) ?_
  intro w0 X0 Fin pv0 pb
  unfold pspec_DrawTermList at h
  refine Wc.seq ?_
  refine Wc.region [] [] [0] [] [] ⟨[(0, (.v (.sl (List.map cI.u8 a137_)), []))], [], []⟩ _ (by kernel_rfl) .nil ?_
  refine Wc.seq ?_
  obtain ⟨c138_, h142, h⟩ := obind h
  obtain ⟨o139_, h143, h⟩ := obind h
  refine Wc.region [{}, { r := some (.p [.sl (List.map cI.u8 c138_.gB), .int .i64 c138_.gI, .int .i64 c138_.gH] []) }, { r := some (.v (.sl (List.map GTerm.c o139_.2)) []), outs := [(0, .p [.sl (List.map cI.u8 o139_.1.gB), .int .i64 o139_.1.gI, .int .i64 o139_.1.gH] [])] }] [] [2] [] [] ⟨[(2, (.v (.sl (List.map GTerm.c o139_.2)), []))], [], []⟩ _ (by kernel_rfl) (.cons (cspec_l01New h142) (.cons (cspec_l21Terms h143) .nil)) ?_
  refine Wc.ret ?_
  obtain rfl := Option.some.inj h
  exact ⟨.inl rfl, by kernel_rfl, by kernel_rfl⟩

/-- impl.copyTerm$1 -/
def pimpl_copyTerm_1 (k : Nat) (b140_ : Int) : Option Int :=
  some b140_
theorem cimpl_copyTerm_1 {k : Nat} {b140_ : Int} {r : Int} (h : pimpl_copyTerm_1 k b140_ = some r) : FnO Try.prog 132 [.v (.int .i64 b140_) []] (.v (.int .i64 r) []) [] := by
  refine FnO.of Try.func132 (rfl : Try.f132.body = some _) (Nat.le_of_ble_eq_true (by kernel_rfl)) (Nat.le_of_ble_eq_true (by kernel_rfl)) ?_
  intro w0 X0 Fin pv0 pb
  unfold pimpl_copyTerm_1 at h
  refine Wc.seq ?_
  refine Wc.region [] [] [0] [] [] ⟨[(0, (.v (.int .i64 b140_), []))], [], []⟩ _ (by kernel_rfl) .nil ?_
  refine Wc.seq ?_
  refine Wc.region [] [] [2] [] [] ⟨[(2, (.v (.int .i64 b140_), []))], [], []⟩ _ (by kernel_rfl) .nil ?_
  refine Wc.ret ?_
  obtain rfl := Option.some.inj h
  exact ⟨.inl rfl, by kernel_rfl, by kernel_rfl⟩

def pimpl_renamed_on1_pimpl_copyTerm_1_L2 (k : Nat) (rimpl_renamed_on1_pimpl_copyTerm_1 : GTerm → Option GTerm) (f150_ : GTerm) : Nat → Int → GTerm → Option (Out GTerm GTerm)
  | 0, _, _ => none
  | m + 1, b152_, f153_ =>
    if (decide (b152_ < (f150_.gKids.length : Int))) = true then
      (at' f150_.gKids b152_).bind fun f155_ =>
      (rimpl_renamed_on1_pimpl_copyTerm_1 f155_).bind fun f156_ =>
      if f153_.gKids.length + [f156_].length ≤ 1073741824 then
        pimpl_renamed_on1_pimpl_copyTerm_1_L2 k rimpl_renamed_on1_pimpl_copyTerm_1 f150_ m (wr.i64 (b152_ + 1)) (GTerm.mk f153_.gKind f153_.gName f153_.gNum (f153_.gKids ++ [f156_]))
      else none
    else
      some (.done f153_)
def pimpl_renamed_on1_pimpl_copyTerm_1_J1 (k : Nat) (rimpl_renamed_on1_pimpl_copyTerm_1 : GTerm → Option GTerm) (f150_ : GTerm) (f151_ : GTerm) : Option GTerm :=
  (pimpl_renamed_on1_pimpl_copyTerm_1_L2 k rimpl_renamed_on1_pimpl_copyTerm_1 f150_ k 0 f151_).bind fun out2 => match out2 with
  | .ret r => some r
  | .done f154_ =>
    some f154_
mutual
/-- impl.renamed -/
def pimpl_renamed_on1_pimpl_copyTerm_1 : Nat → GTerm → Option GTerm
  | 0, _ => none
  | k + 1, f150_ =>
    if (f150_.gKind == 1) = true then
      (pimpl_copyTerm_1 k f150_.gNum).bind fun b157_ =>
      pimpl_renamed_on1_pimpl_copyTerm_1_J1 k (pimpl_renamed_on1_pimpl_copyTerm_1 k) f150_ (GTerm.mk f150_.gKind f150_.gName b157_ [])
    else
      pimpl_renamed_on1_pimpl_copyTerm_1_J1 k (pimpl_renamed_on1_pimpl_copyTerm_1 k) f150_ (GTerm.mk f150_.gKind f150_.gName f150_.gNum [])
end
set_option maxHeartbeats 4000000 in
theorem all_pimpl_renamed_on1_pimpl_copyTerm_1 : ∀ k : Nat, (∀ {f150_ : GTerm} {r : GTerm}, pimpl_renamed_on1_pimpl_copyTerm_1 k f150_ = some r → FnO Try.prog 131 [.v (.agg [.int .i64 f150_.gKind, .str f150_.gName, .int .i64 f150_.gNum, .sl (List.map GTerm.c f150_.gKids)]) [], .v (.func 132 []) []] (.v (.agg [.int .i64 r.gKind, .str r.gName, .int .i64 r.gNum, .sl (List.map GTerm.c r.gKids)]) [(3, .app 41)]) []) := by
  intro k
  induction k with
  | zero =>
    · intro f150_ r h
      exact (onone (by rw [pimpl_renamed_on1_pimpl_copyTerm_1] at h; exact h)).elim
  | succ k ih =>
    have ih_pimpl_renamed_on1_pimpl_copyTerm_1 := @ih
    · intro f150_ r h
      rw [pimpl_renamed_on1_pimpl_copyTerm_1] at h
      refine FnO.of Try.func131 (rfl : Try.f131.body = some _) (Nat.le_of_ble_eq_true (by kernel_rfl)) (Nat.le_of_ble_eq_true (by kernel_rfl)) ?_
      intro w0 X0 Fin pv0 pb
      refine Wc.seq ?_
      refine Wc.region [] [] [1, 2, 4] [2, 4] [] ⟨[(1, (.v (.func 132 []), [])), (2, (.ptr 2 0, [])), (4, (.ptr 4 0, []))], [(2, .cells [.int .i64 f150_.gKind, .str f150_.gName, .int .i64 f150_.gNum, .sl (List.map GTerm.c f150_.gKids)] []), (4, .cells [.int .i64 0, .str (bs []), .int .i64 0, .sl (List.map GTerm.c [])] [(3, .app 41)])], []⟩ _ (by kernel_rfl) .nil ?_
      refine Wc.seq ?_
      refine Wc.region [] [] [1, 2, 4, 5] [2, 4, 5] [] ⟨[(1, (.v (.func 132 []), [])), (2, (.ptr 2 0, [])), (4, (.ptr 4 0, [])), (5, (.ptr 5 0, []))], [(2, .cells [.int .i64 f150_.gKind, .str f150_.gName, .int .i64 f150_.gNum, .sl (List.map GTerm.c f150_.gKids)] []), (4, .cells [.int .i64 0, .str (bs []), .int .i64 0, .sl (List.map GTerm.c [])] [(3, .app 41)]), (5, .cells [.int .i64 f150_.gKind, .str f150_.gName, .int .i64 f150_.gNum, .sl (List.map GTerm.c f150_.gKids)] [])], []⟩ _ (by kernel_rfl) .nil ?_
      refine Wc.seq ?_
      refine Wc.region [] [] [1, 2, 4, 5] [2, 4, 5] [] ⟨[(1, (.v (.func 132 []), [])), (2, (.ptr 2 0, [])), (4, (.ptr 4 0, [])), (5, (.ptr 5 0, []))], [(2, .cells [.int .i64 f150_.gKind, .str f150_.gName, .int .i64 f150_.gNum, .sl (List.map GTerm.c f150_.gKids)] []), (4, .cells [.int .i64 0, .str (bs []), .int .i64 0, .sl (List.map GTerm.c [])] [(3, .app 41)]), (5, .cells [.int .i64 f150_.gKind, .str f150_.gName, .int .i64 f150_.gNum, .sl (List.map GTerm.c [])] [(3, .app 41)])], []⟩ _ (by kernel_rfl) .nil ?_
      refine Wc.seqJ (fun st => ∃ (f151_ : GTerm), st = ⟨[(1, (.v (.func 132 []), [])), (2, (.ptr 2 0, [])), (4, (.ptr 4 0, [])), (5, (.ptr 5 0, []))], [(2, .cells [.int .i64 f150_.gKind, .str f150_.gName, .int .i64 f150_.gNum, .sl (List.map GTerm.c f150_.gKids)] []), (4, .cells [.int .i64 0, .str (bs []), .int .i64 0, .sl (List.map GTerm.c [])] [(3, .app 41)]), (5, .cells [.int .i64 f151_.gKind, .str f151_.gName, .int .i64 f151_.gNum, .sl (List.map GTerm.c f151_.gKids)] [(3, .app 41)])], []⟩ ∧ pimpl_renamed_on1_pimpl_copyTerm_1_J1 k (pimpl_renamed_on1_pimpl_copyTerm_1 k) f150_ f151_ = some r) ?_ ?_
      · refine Wc.seq ?_
        refine Wc.region [] [] [1, 2, 4, 5, 12] [2, 4, 5] [] ⟨[(1, (.v (.func 132 []), [])), (2, (.ptr 2 0, [])), (4, (.ptr 4 0, [])), (5, (.ptr 5 0, [])), (12, (.v (.bool (f150_.gKind == 1)), []))], [(2, .cells [.int .i64 f150_.gKind, .str f150_.gName, .int .i64 f150_.gNum, .sl (List.map GTerm.c f150_.gKids)] []), (4, .cells [.int .i64 0, .str (bs []), .int .i64 0, .sl (List.map GTerm.c [])] [(3, .app 41)]), (5, .cells [.int .i64 f150_.gKind, .str f150_.gName, .int .i64 f150_.gNum, .sl (List.map GTerm.c [])] [(3, .app 41)])], []⟩ _ (by kernel_rfl) .nil ?_
        rcases oif h with ⟨h156, h⟩ | ⟨h156, h⟩
        · refine Wc.condT h156 (by kernel_rfl) ?_
          obtain ⟨b157_, h157, h⟩ := obind h
          refine Wc.region [{}, {}, {}, { r := some (.v (.int .i64 b157_) []) }] [] [1, 2, 4, 5] [2, 4, 5] [] ⟨[(1, (.v (.func 132 []), [])), (2, (.ptr 2 0, [])), (4, (.ptr 4 0, [])), (5, (.ptr 5 0, []))], [(2, .cells [.int .i64 f150_.gKind, .str f150_.gName, .int .i64 f150_.gNum, .sl (List.map GTerm.c f150_.gKids)] []), (4, .cells [.int .i64 0, .str (bs []), .int .i64 0, .sl (List.map GTerm.c [])] [(3, .app 41)]), (5, .cells [.int .i64 f150_.gKind, .str f150_.gName, .int .i64 b157_, .sl (List.map GTerm.c [])] [(3, .app 41)])], []⟩ _ (by kernel_rfl) (.cons (cimpl_copyTerm_1 h157) .nil) ?_
          exact ⟨_, rfl, h⟩
        · refine Wc.condF h156 (by kernel_rfl) ?_
          refine Wc.fix (st' := ⟨[(1, (.v (.func 132 []), [])), (2, (.ptr 2 0, [])), (4, (.ptr 4 0, [])), (5, (.ptr 5 0, []))], [(2, .cells [.int .i64 f150_.gKind, .str f150_.gName, .int .i64 f150_.gNum, .sl (List.map GTerm.c f150_.gKids)] []), (4, .cells [.int .i64 0, .str (bs []), .int .i64 0, .sl (List.map GTerm.c [])] [(3, .app 41)]), (5, .cells [.int .i64 f150_.gKind, .str f150_.gName, .int .i64 f150_.gNum, .sl (List.map GTerm.c [])] [(3, .app 41)])], []⟩) [] [1, 2, 4, 5] [2, 4, 5] [] (by kernel_rfl) ?_
          refine Wc.skip ?_
          exact ⟨_, rfl, h⟩
      · rintro st ⟨f151_, rfl, h⟩
        refine Wc.seq ?_
        refine Wc.seq ?_
        refine Wc.region [{}, {}, { v := some (.int .i64 (f150_.gKids.length : Int)) }] [] [1, 4, 5, 19, 20, 21] [4, 5] [] ⟨[(1, (.v (.func 132 []), [])), (4, (.ptr 4 0, [])), (5, (.ptr 5 0, [])), (19, (.v (.sl (List.map GTerm.c f150_.gKids)), [])), (20, (.v (.int .i64 (f150_.gKids.length : Int)), [])), (21, (.v (.int .i64 0), []))], [(4, .cells [.int .i64 0, .str (bs []), .int .i64 0, .sl (List.map GTerm.c [])] [(3, .app 41)]), (5, .cells [.int .i64 f151_.gKind, .str f151_.gName, .int .i64 f151_.gNum, .sl (List.map GTerm.c f151_.gKids)] [(3, .app 41)])], []⟩ _ (by kernel_rfl) (.cons (len_obl GTerm.c f150_.gKids) .nil) ?_
        obtain ⟨out2, h151, h⟩ := obind h
        refine Wc.lastJ (fun st => ∃ (f154_ : GTerm), out2 = .done f154_ ∧ st = ⟨[(4, (.ptr 4 0, [])), (5, (.ptr 5 0, []))], [(4, .cells [.int .i64 0, .str (bs []), .int .i64 0, .sl (List.map GTerm.c [])] [(3, .app 41)]), (5, .cells [.int .i64 f154_.gKind, .str f154_.gName, .int .i64 f154_.gNum, .sl (List.map GTerm.c f154_.gKids)] [(3, .app 41)])], []⟩) ?_ ?_
        · refine Wc.block ?_
          refine Wc.loop (fun m st => ∃ (b152_ : Int) (f153_ : GTerm), st = ⟨[(1, (.v (.func 132 []), [])), (4, (.ptr 4 0, [])), (5, (.ptr 5 0, [])), (19, (.v (.sl (List.map GTerm.c f150_.gKids)), [])), (20, (.v (.int .i64 (f150_.gKids.length : Int)), [])), (21, (.v (.int .i64 b152_), []))], [(4, .cells [.int .i64 0, .str (bs []), .int .i64 0, .sl (List.map GTerm.c [])] [(3, .app 41)]), (5, .cells [.int .i64 f153_.gKind, .str f153_.gName, .int .i64 f153_.gNum, .sl (List.map GTerm.c f153_.gKids)] [(3, .app 41)])], []⟩ ∧ pimpl_renamed_on1_pimpl_copyTerm_1_L2 k (pimpl_renamed_on1_pimpl_copyTerm_1 k) f150_ m b152_ f153_ = some out2) ?_ k ⟨_, _, rfl, h151⟩
          rintro m st ⟨b152_, f153_, rfl, h151⟩
          cases m with
          | zero => exact (onone h151).elim
          | succ m =>
            refine Wc.seq ?_
            refine Wc.region [] [] [1, 4, 5, 19, 20, 21, 22] [4, 5] [] ⟨[(1, (.v (.func 132 []), [])), (4, (.ptr 4 0, [])), (5, (.ptr 5 0, [])), (19, (.v (.sl (List.map GTerm.c f150_.gKids)), [])), (20, (.v (.int .i64 (f150_.gKids.length : Int)), [])), (21, (.v (.int .i64 b152_), [])), (22, (.v (.bool (decide (b152_ < (f150_.gKids.length : Int)))), []))], [(4, .cells [.int .i64 0, .str (bs []), .int .i64 0, .sl (List.map GTerm.c [])] [(3, .app 41)]), (5, .cells [.int .i64 f153_.gKind, .str f153_.gName, .int .i64 f153_.gNum, .sl (List.map GTerm.c f153_.gKids)] [(3, .app 41)])], []⟩ _ (by kernel_rfl) .nil ?_
            refine Wc.seq ?_
            rcases oif h151 with ⟨h152, h151⟩ | ⟨h152, h151⟩
            · refine Wc.condT h152 (by kernel_rfl) ?_
              refine Wc.fix (st' := ⟨[(1, (.v (.func 132 []), [])), (4, (.ptr 4 0, [])), (5, (.ptr 5 0, [])), (19, (.v (.sl (List.map GTerm.c f150_.gKids)), [])), (20, (.v (.int .i64 (f150_.gKids.length : Int)), [])), (21, (.v (.int .i64 b152_), []))], [(4, .cells [.int .i64 0, .str (bs []), .int .i64 0, .sl (List.map GTerm.c [])] [(3, .app 41)]), (5, .cells [.int .i64 f153_.gKind, .str f153_.gName, .int .i64 f153_.gNum, .sl (List.map GTerm.c f153_.gKids)] [(3, .app 41)])], []⟩) [] [1, 4, 5, 19, 20, 21] [4, 5] [] (by kernel_rfl) ?_
              refine Wc.skip ?_
              refine Wc.seq ?_
              refine Wc.block ?_
              refine Wc.seq ?_
              obtain ⟨f155_, h153, h151⟩ := obind h151
              refine Wc.region [{ v := some (.vptr [.int .i64 f155_.gKind, .str f155_.gName, .int .i64 f155_.gNum, .sl (List.map GTerm.c f155_.gKids)]) }] [] [1, 4, 5, 7, 19, 20, 21] [4, 5, 7] [] ⟨[(1, (.v (.func 132 []), [])), (4, (.ptr 4 0, [])), (5, (.ptr 5 0, [])), (7, (.ptr 7 0, [])), (19, (.v (.sl (List.map GTerm.c f150_.gKids)), [])), (20, (.v (.int .i64 (f150_.gKids.length : Int)), [])), (21, (.v (.int .i64 b152_), []))], [(4, .cells [.int .i64 0, .str (bs []), .int .i64 0, .sl (List.map GTerm.c [])] [(3, .app 41)]), (5, .cells [.int .i64 f153_.gKind, .str f153_.gName, .int .i64 f153_.gNum, .sl (List.map GTerm.c f153_.gKids)] [(3, .app 41)]), (7, .cells [.int .i64 f155_.gKind, .str f155_.gName, .int .i64 f155_.gNum, .sl (List.map GTerm.c f155_.gKids)] [])], []⟩ _ (by kernel_rfl) (.cons (at_obl (c := GTerm.c) (GTerm.c_eq f155_) GTerm.c_len h153) (.cons (len_ok 4 [.int .i64 f155_.gKind, .str f155_.gName, .int .i64 f155_.gNum, .sl (List.map GTerm.c f155_.gKids)]) .nil)) ?_
              obtain ⟨f156_, h154, h151⟩ := obind h151
              obtain ⟨h155, h151⟩ := oguard h151
              refine Wc.draw hmix [{}, { md := 1 }, {}, {}, { r := some (.v (.agg [.int .i64 f156_.gKind, .str f156_.gName, .int .i64 f156_.gNum, .sl (List.map GTerm.c f156_.gKids)]) [(3, .app 41)]) }, { c := some (List.map GTerm.c [f156_]) }, { c := some (List.map GTerm.c (f153_.gKids ++ [f156_])), tk := [26] }, {}, { tk := [31] }] [] [1, 4, 5, 19, 20, 21] [4, 5] [] ⟨[(1, (.v (.func 132 []), [])), (4, (.ptr 4 0, [])), (5, (.ptr 5 0, [])), (19, (.v (.sl (List.map GTerm.c f150_.gKids)), [])), (20, (.v (.int .i64 (f150_.gKids.length : Int)), [])), (21, (.v (.int .i64 b152_), []))], [(4, .cells [.int .i64 0, .str (bs []), .int .i64 0, .sl (List.map GTerm.c [])] [(3, .app 41)]), (5, .cells [.int .i64 f153_.gKind, .str f153_.gName, .int .i64 f153_.gNum, .sl (List.map GTerm.c (f153_.gKids ++ [f156_]))] [(3, .app 41)])], []⟩ _ (by kernel_rfl) (fun X => by kernel_rfl) (.cons (ih_pimpl_renamed_on1_pimpl_copyTerm_1 h154) (.cons (cl_cons (c := GTerm.c) (x := f156_) (GTerm.c_eq f156_) (cl_nil GTerm.c)) (.cons (app_re2 GTerm.c f153_.gKids [f156_]) (.cons (app_leaf (c := GTerm.c) (ys := [f156_]) GTerm.c_leaf) (.cons (app_obl2 (c := GTerm.c) (xs := f153_.gKids) (ys := [f156_]) GTerm.c_len h155) .nil))))) ?_
              refine Wc.region [] [] [1, 4, 5, 19, 20, 21] [4, 5] [] ⟨[(1, (.v (.func 132 []), [])), (4, (.ptr 4 0, [])), (5, (.ptr 5 0, [])), (19, (.v (.sl (List.map GTerm.c f150_.gKids)), [])), (20, (.v (.int .i64 (f150_.gKids.length : Int)), [])), (21, (.v (.int .i64 (wr.i64 (b152_ + 1))), []))], [(4, .cells [.int .i64 0, .str (bs []), .int .i64 0, .sl (List.map GTerm.c [])] [(3, .app 41)]), (5, .cells [.int .i64 f153_.gKind, .str f153_.gName, .int .i64 f153_.gNum, .sl (List.map GTerm.c (f153_.gKids ++ [f156_]))] [(3, .app 41)])], []⟩ _ (by kernel_rfl) .nil ?_
              exact ⟨_, Nat.lt_succ_self _, _, _, rfl, h151⟩
            · refine Wc.condF h152 (by kernel_rfl) ?_
              refine Wc.fix (st' := ⟨[(4, (.ptr 4 0, [])), (5, (.ptr 5 0, []))], [(4, .cells [.int .i64 0, .str (bs []), .int .i64 0, .sl (List.map GTerm.c [])] [(3, .app 41)]), (5, .cells [.int .i64 f153_.gKind, .str f153_.gName, .int .i64 f153_.gNum, .sl (List.map GTerm.c f153_.gKids)] [(3, .app 41)])], []⟩) [] [4, 5] [4, 5] [] (by kernel_rfl) ?_
              refine Wc.exit ?_
              obtain rfl := Option.some.inj h151
              exact ⟨_, rfl, rfl⟩
        · rintro st ⟨f154_, rfl, rfl⟩
          refine Wc.seq ?_
          refine Wc.region [{ md := 1 }, { tk := [34] }] [] [4] [4] [] ⟨[(4, (.ptr 4 0, []))], [(4, .cells [.int .i64 f154_.gKind, .str f154_.gName, .int .i64 f154_.gNum, .sl (List.map GTerm.c f154_.gKids)] [(3, .app 41)])], []⟩ _ (by kernel_rfl) .nil ?_
          refine Wc.ret ?_
          obtain rfl := Option.some.inj h
          exact ⟨.inl rfl, by kernel_rfl, by kernel_rfl⟩
theorem cimpl_renamed_on1_pimpl_copyTerm_1 {k : Nat} {f150_ : GTerm} {r : GTerm} (h : pimpl_renamed_on1_pimpl_copyTerm_1 k f150_ = some r) : FnO Try.prog 131 [.v (.agg [.int .i64 f150_.gKind, .str f150_.gName, .int .i64 f150_.gNum, .sl (List.map GTerm.c f150_.gKids)]) [], .v (.func 132 []) []] (.v (.agg [.int .i64 r.gKind, .str r.gName, .int .i64 r.gNum, .sl (List.map GTerm.c r.gKids)]) [(3, .app 41)]) [] := (all_pimpl_renamed_on1_pimpl_copyTerm_1 k) h

/-- impl.copyTerm -/
def pimpl_copyTerm (k : Nat) (f143_ : GTerm) : Option GTerm :=
  (pimpl_renamed_on1_pimpl_copyTerm_1 k f143_).bind fun f144_ =>
  some f144_
theorem cimpl_copyTerm {k : Nat} {f143_ : GTerm} {r : GTerm} (h : pimpl_copyTerm k f143_ = some r) : FnO Try.prog 75 [.v (.agg [.int .i64 f143_.gKind, .str f143_.gName, .int .i64 f143_.gNum, .sl (List.map GTerm.c f143_.gKids)]) []] (.v (.agg [.int .i64 r.gKind, .str r.gName, .int .i64 r.gNum, .sl (List.map GTerm.c r.gKids)]) [(3, .app 41)]) [] := by
  refine FnO.of Try.func75 (rfl : Try.f75.body = some _) (Nat.le_of_ble_eq_true (by kernel_rfl)) (Nat.le_of_ble_eq_true (by kernel_rfl)) ?_
  intro w0 X0 Fin pv0 pb
  unfold pimpl_copyTerm at h
  refine Wc.seq ?_
  refine Wc.region [] [] [1, 2] [1, 2] [] ⟨[(1, (.ptr 1 0, [])), (2, (.ptr 2 0, []))], [(1, .cells [.int .i64 f143_.gKind, .str f143_.gName, .int .i64 f143_.gNum, .sl (List.map GTerm.c f143_.gKids)] []), (2, .cells [.int .i64 0, .str (bs []), .int .i64 0, .sl (List.map GTerm.c [])] [(3, .app 41)])], []⟩ _ (by kernel_rfl) .nil ?_
  refine Wc.seq ?_
  obtain ⟨f144_, h145, h⟩ := obind h
  refine Wc.region [{}, { r := some (.v (.agg [.int .i64 f144_.gKind, .str f144_.gName, .int .i64 f144_.gNum, .sl (List.map GTerm.c f144_.gKids)]) [(3, .app 41)]) }, { tk := [4] }] [] [2] [2] [] ⟨[(2, (.ptr 2 0, []))], [(2, .cells [.int .i64 f144_.gKind, .str f144_.gName, .int .i64 f144_.gNum, .sl (List.map GTerm.c f144_.gKids)] [(3, .app 41)])], []⟩ _ (by kernel_rfl) (.cons (cimpl_renamed_on1_pimpl_copyTerm_1 h145) .nil) ?_
  refine Wc.ret ?_
  obtain rfl := Option.some.inj h
  exact ⟨.inl rfl, by kernel_rfl, by kernel_rfl⟩

/-- impl.structure -/
def pimpl_structure (k : Nat) (e145_ : ByteArray) (m146_ : List GTerm) : Option GTerm :=
  some (GTerm.mk 4 e145_ 0 m146_)
theorem cimpl_structure {k : Nat} {e145_ : ByteArray} {m146_ : List GTerm} {r : GTerm} (h : pimpl_structure k e145_ m146_ = some r) : FnO Try.prog 92 [.v (.str e145_) [], .v (.sl (List.map GTerm.c m146_)) []] (.v (.agg [.int .i64 r.gKind, .str r.gName, .int .i64 r.gNum, .sl (List.map GTerm.c r.gKids)]) []) [] := by
  refine FnO.of Try.func92 (rfl : Try.f92.body = some _) (Nat.le_of_ble_eq_true (by kernel_rfl)) (Nat.le_of_ble_eq_true (by kernel_rfl)) ?_
  intro w0 X0 Fin pv0 pb
  unfold pimpl_structure at h
  refine Wc.seq ?_
  refine Wc.region [] [] [0, 1, 4] [4] [] ⟨[(0, (.v (.str e145_), [])), (1, (.v (.sl (List.map GTerm.c m146_)), [])), (4, (.ptr 4 0, []))], [(4, .cells [.int .i64 0, .str (bs []), .int .i64 0, .sl (List.map GTerm.c [])] [(3, .app 41)])], []⟩ _ (by kernel_rfl) .nil ?_
  refine Wc.seq ?_
  refine Wc.region [] [] [4] [4] [] ⟨[(4, (.ptr 4 0, []))], [(4, .cells [.int .i64 4, .str e145_, .int .i64 0, .sl (List.map GTerm.c m146_)] [])], []⟩ _ (by kernel_rfl) .nil ?_
  refine Wc.ret ?_
  obtain rfl := Option.some.inj h
  exact ⟨.inl rfl, by kernel_rfl, by kernel_rfl⟩

def pimpl_listOf_L1 (k : Nat) (m147_ : List GTerm) : Nat → Int → GTerm → Option (Out GTerm GTerm)
  | 0, _, _ => none
  | m + 1, b149_, f150_ =>
    if (decide (b149_ ≥ 0)) = true then
      (at' m147_ b149_).bind fun f152_ =>
      (pimpl_copyTerm k f152_).bind fun f153_ =>
      (pimpl_structure k (bs [46]) [f153_, f150_]).bind fun f154_ =>
      pimpl_listOf_L1 k m147_ m (wr.i64 (b149_ - 1)) f154_
    else
      some (.done f150_)
/-- impl.listOf -/
def pimpl_listOf (k : Nat) (m147_ : List GTerm) (f148_ : GTerm) : Option GTerm :=
  (pimpl_listOf_L1 k m147_ k (wr.i64 ((m147_.length : Int) - 1)) f148_).bind fun out1 => match out1 with
  | .ret r => some r
  | .done f151_ =>
    some f151_
theorem cimpl_listOf {k : Nat} {m147_ : List GTerm} {f148_ : GTerm} {r : GTerm} (h : pimpl_listOf k m147_ f148_ = some r) : FnO Try.prog 70 [.v (.sl (List.map GTerm.c m147_)) [], .v (.agg [.int .i64 f148_.gKind, .str f148_.gName, .int .i64 f148_.gNum, .sl (List.map GTerm.c f148_.gKids)]) []] (.v (.agg [.int .i64 r.gKind, .str r.gName, .int .i64 r.gNum, .sl (List.map GTerm.c r.gKids)]) []) [] := by
  refine FnO.of Try.func70 (rfl : Try.f70.body = some _) (Nat.le_of_ble_eq_true (by kernel_rfl)) (Nat.le_of_ble_eq_true (by kernel_rfl)) ?_
  intro w0 X0 Fin pv0 pb
  unfold pimpl_listOf at h
  refine Wc.seq ?_
  refine Wc.region [] [] [0, 3, 4] [3, 4] [] ⟨[(0, (.v (.sl (List.map GTerm.c m147_)), [])), (3, (.ptr 3 0, [])), (4, (.ptr 4 0, []))], [(3, .cells [.int .i64 f148_.gKind, .str f148_.gName, .int .i64 f148_.gNum, .sl (List.map GTerm.c f148_.gKids)] []), (4, .cells [.int .i64 0, .str (bs []), .int .i64 0, .sl (List.map GTerm.c [])] [(3, .app 41)])], []⟩ _ (by kernel_rfl) .nil ?_
  refine Wc.seq ?_
  refine Wc.seq ?_
  refine Wc.region [{}, { v := some (.int .i64 (m147_.length : Int)) }] [] [0, 3, 4, 5] [3, 4] [] ⟨[(0, (.v (.sl (List.map GTerm.c m147_)), [])), (3, (.ptr 3 0, [])), (4, (.ptr 4 0, [])), (5, (.v (.int .i64 (wr.i64 ((m147_.length : Int) - 1))), []))], [(3, .cells [.int .i64 f148_.gKind, .str f148_.gName, .int .i64 f148_.gNum, .sl (List.map GTerm.c f148_.gKids)] []), (4, .cells [.int .i64 0, .str (bs []), .int .i64 0, .sl (List.map GTerm.c [])] [(3, .app 41)])], []⟩ _ (by kernel_rfl) (.cons (len_obl GTerm.c m147_) .nil) ?_
  obtain ⟨out1, h146, h⟩ := obind h
  refine Wc.lastJ (fun st => ∃ (f151_ : GTerm), out1 = .done f151_ ∧ st = ⟨[(3, (.ptr 3 0, [])), (4, (.ptr 4 0, []))], [(3, .cells [.int .i64 f151_.gKind, .str f151_.gName, .int .i64 f151_.gNum, .sl (List.map GTerm.c f151_.gKids)] []), (4, .cells [.int .i64 0, .str (bs []), .int .i64 0, .sl (List.map GTerm.c [])] [(3, .app 41)])], []⟩) ?_ ?_
  · refine Wc.block ?_
    refine Wc.loop (fun m st => ∃ (b149_ : Int) (f150_ : GTerm), st = ⟨[(0, (.v (.sl (List.map GTerm.c m147_)), [])), (3, (.ptr 3 0, [])), (4, (.ptr 4 0, [])), (5, (.v (.int .i64 b149_), []))], [(3, .cells [.int .i64 f150_.gKind, .str f150_.gName, .int .i64 f150_.gNum, .sl (List.map GTerm.c f150_.gKids)] []), (4, .cells [.int .i64 0, .str (bs []), .int .i64 0, .sl (List.map GTerm.c [])] [(3, .app 41)])], []⟩ ∧ pimpl_listOf_L1 k m147_ m b149_ f150_ = some out1) ?_ k ⟨_, _, rfl, h146⟩
    rintro m st ⟨b149_, f150_, rfl, h146⟩
    cases m with
    | zero => exact (onone h146).elim
    | succ m =>
      refine Wc.seq ?_
      refine Wc.seq ?_
      refine Wc.region [] [] [0, 3, 4, 5, 10] [3, 4] [] ⟨[(0, (.v (.sl (List.map GTerm.c m147_)), [])), (3, (.ptr 3 0, [])), (4, (.ptr 4 0, [])), (5, (.v (.int .i64 b149_), [])), (10, (.v (.bool (decide (b149_ ≥ 0))), []))], [(3, .cells [.int .i64 f150_.gKind, .str f150_.gName, .int .i64 f150_.gNum, .sl (List.map GTerm.c f150_.gKids)] []), (4, .cells [.int .i64 0, .str (bs []), .int .i64 0, .sl (List.map GTerm.c [])] [(3, .app 41)])], []⟩ _ (by kernel_rfl) .nil ?_
      rcases oif h146 with ⟨h147, h146⟩ | ⟨h147, h146⟩
      · refine Wc.condT h147 (by kernel_rfl) ?_
        refine Wc.fix (st' := ⟨[(0, (.v (.sl (List.map GTerm.c m147_)), [])), (3, (.ptr 3 0, [])), (4, (.ptr 4 0, [])), (5, (.v (.int .i64 b149_), []))], [(3, .cells [.int .i64 f150_.gKind, .str f150_.gName, .int .i64 f150_.gNum, .sl (List.map GTerm.c f150_.gKids)] []), (4, .cells [.int .i64 0, .str (bs []), .int .i64 0, .sl (List.map GTerm.c [])] [(3, .app 41)])], []⟩) [] [0, 3, 4, 5] [3, 4] [] (by kernel_rfl) ?_
        refine Wc.skip ?_
        refine Wc.seq ?_
        refine Wc.block ?_
        obtain ⟨f152_, h148, h146⟩ := obind h146
        obtain ⟨f153_, h149, h146⟩ := obind h146
        obtain ⟨f154_, h150, h146⟩ := obind h146
        refine Wc.draw hmix [{}, {}, { v := some (.vptr [.int .i64 f152_.gKind, .str f152_.gName, .int .i64 f152_.gNum, .sl (List.map GTerm.c f152_.gKids)]) }, {}, { r := some (.v (.agg [.int .i64 f153_.gKind, .str f153_.gName, .int .i64 f153_.gNum, .sl (List.map GTerm.c f153_.gKids)]) [(3, .app 41)]) }, {}, { c := some (List.map GTerm.c [f153_, f150_]) }, { r := some (.v (.agg [.int .i64 f154_.gKind, .str f154_.gName, .int .i64 f154_.gNum, .sl (List.map GTerm.c f154_.gKids)]) []) }] [] [0, 3, 4, 5] [3, 4] [] ⟨[(0, (.v (.sl (List.map GTerm.c m147_)), [])), (3, (.ptr 3 0, [])), (4, (.ptr 4 0, [])), (5, (.v (.int .i64 b149_), []))], [(3, .cells [.int .i64 f154_.gKind, .str f154_.gName, .int .i64 f154_.gNum, .sl (List.map GTerm.c f154_.gKids)] []), (4, .cells [.int .i64 0, .str (bs []), .int .i64 0, .sl (List.map GTerm.c [])] [(3, .app 41)])], []⟩ _ (by kernel_rfl) (fun X => by kernel_rfl) (.cons (at_obl (c := GTerm.c) (GTerm.c_eq f152_) GTerm.c_len h148) (.cons (len_ok 4 [.int .i64 f152_.gKind, .str f152_.gName, .int .i64 f152_.gNum, .sl (List.map GTerm.c f152_.gKids)]) (.cons (cimpl_copyTerm h149) (.cons (cl_cons (c := GTerm.c) (x := f153_) (GTerm.c_eq f153_) (cl_cons (c := GTerm.c) (x := f150_) (GTerm.c_eq f150_) (cl_nil GTerm.c))) (.cons (cimpl_structure h150) .nil))))) ?_
        refine Wc.region [] [] [0, 3, 4, 5] [3, 4] [] ⟨[(0, (.v (.sl (List.map GTerm.c m147_)), [])), (3, (.ptr 3 0, [])), (4, (.ptr 4 0, [])), (5, (.v (.int .i64 (wr.i64 (b149_ - 1))), []))], [(3, .cells [.int .i64 f154_.gKind, .str f154_.gName, .int .i64 f154_.gNum, .sl (List.map GTerm.c f154_.gKids)] []), (4, .cells [.int .i64 0, .str (bs []), .int .i64 0, .sl (List.map GTerm.c [])] [(3, .app 41)])], []⟩ _ (by kernel_rfl) .nil ?_
        exact ⟨_, Nat.lt_succ_self _, _, _, rfl, h146⟩
      · refine Wc.condF h147 (by kernel_rfl) ?_
        refine Wc.fix (st' := ⟨[(3, (.ptr 3 0, [])), (4, (.ptr 4 0, []))], [(3, .cells [.int .i64 f150_.gKind, .str f150_.gName, .int .i64 f150_.gNum, .sl (List.map GTerm.c f150_.gKids)] []), (4, .cells [.int .i64 0, .str (bs []), .int .i64 0, .sl (List.map GTerm.c [])] [(3, .app 41)])], []⟩) [] [3, 4] [3, 4] [] (by kernel_rfl) ?_
        refine Wc.exit ?_
        obtain rfl := Option.some.inj h146
        exact ⟨_, rfl, rfl⟩
  · rintro st ⟨f151_, rfl, rfl⟩
    refine Wc.seq ?_
    refine Wc.region [] [] [4] [4] [] ⟨[(4, (.ptr 4 0, []))], [(4, .cells [.int .i64 f151_.gKind, .str f151_.gName, .int .i64 f151_.gNum, .sl (List.map GTerm.c f151_.gKids)] [])], []⟩ _ (by kernel_rfl) .nil ?_
    refine Wc.ret ?_
    obtain rfl := Option.some.inj h
    exact ⟨.inl rfl, by kernel_rfl, by kernel_rfl⟩

/-- impl.atom -/
def pimpl_atom (k : Nat) (e156_ : ByteArray) : Option GTerm :=
  some (GTerm.mk 2 e156_ 0 [])
theorem cimpl_atom {k : Nat} {e156_ : ByteArray} {r : GTerm} (h : pimpl_atom k e156_ = some r) : FnO Try.prog 71 [.v (.str e156_) []] (.v (.agg [.int .i64 r.gKind, .str r.gName, .int .i64 r.gNum, .sl (List.map GTerm.c r.gKids)]) [(3, .app 41)]) [] := by
  refine FnO.of Try.func71 (rfl : Try.f71.body = some _) (Nat.le_of_ble_eq_true (by kernel_rfl)) (Nat.le_of_ble_eq_true (by kernel_rfl)) ?_
  intro w0 X0 Fin pv0 pb
  unfold pimpl_atom at h
  refine Wc.seq ?_
  refine Wc.region [] [] [0, 2] [2] [] ⟨[(0, (.v (.str e156_), [])), (2, (.ptr 2 0, []))], [(2, .cells [.int .i64 0, .str (bs []), .int .i64 0, .sl (List.map GTerm.c [])] [(3, .app 41)])], []⟩ _ (by kernel_rfl) .nil ?_
  refine Wc.seq ?_
  refine Wc.region [{}, {}, { tk := [4] }] [] [2] [2] [] ⟨[(2, (.ptr 2 0, []))], [(2, .cells [.int .i64 2, .str e156_, .int .i64 0, .sl (List.map GTerm.c [])] [(3, .app 41)])], []⟩ _ (by kernel_rfl) .nil ?_
  refine Wc.ret ?_
  obtain rfl := Option.some.inj h
  exact ⟨.inl rfl, by kernel_rfl, by kernel_rfl⟩

/-- impl.within -/
def pimpl_within (k : Nat) (b157_ : Int) (b158_ : Int) (b159_ : Int) : Option Bool :=
  if (decide (b157_ ≥ b158_)) = true then
    some (decide (b157_ ≤ b159_))
  else
    some false
theorem cimpl_within {k : Nat} {b157_ : Int} {b158_ : Int} {b159_ : Int} {r : Bool} (h : pimpl_within k b157_ b158_ b159_ = some r) : FnO Try.prog 90 [.v (.int .i64 b157_) [], .v (.int .i64 b158_) [], .v (.int .i64 b159_) []] (.v (.bool r) []) [] := by
  refine FnO.of Try.func90 (rfl : Try.f90.body = some _) (Nat.le_of_ble_eq_true (by kernel_rfl)) (Nat.le_of_ble_eq_true (by kernel_rfl)) ?_
  intro w0 X0 Fin pv0 pb
  unfold pimpl_within at h
  refine Wc.seq ?_
  refine Wc.region [] [] [0, 1, 2] [] [] ⟨[(0, (.v (.int .i64 b157_), [])), (1, (.v (.int .i64 b158_), [])), (2, (.v (.int .i64 b159_), []))], [], []⟩ _ (by kernel_rfl) .nil ?_
  refine Wc.seq ?_
  rcases oif h with ⟨h151, h⟩ | ⟨h151, h⟩
  · refine Wc.region [{}, {}, {}, { re := some (.bool true) }] [] [6] [] [] ⟨[(6, (.v (.bool (decide (b157_ ≤ b159_))), []))], [], []⟩ _ (by kernel_rfl) (.cons (congrArg AV.bool h151) .nil) ?_
    refine Wc.ret ?_
    obtain rfl := Option.some.inj h
    exact ⟨.inl rfl, by kernel_rfl, by kernel_rfl⟩
  · refine Wc.region [{}, {}, {}, { re := some (.bool false) }] [] [6] [] [] ⟨[(6, (.v (.bool false), []))], [], []⟩ _ (by kernel_rfl) (.cons (congrArg AV.bool h151) .nil) ?_
    refine Wc.ret ?_
    obtain rfl := Option.some.inj h
    exact ⟨.inl rfl, by kernel_rfl, by kernel_rfl⟩

def pimpl_nameOk_L1 (k : Nat) (e160_ : ByteArray) : Nat → Int → Option (Out Bool Unit)
  | 0, _ => none
  | m + 1, b161_ =>
    if (decide (b161_ < (e160_.size : Int))) = true then
      if 0 ≤ b161_ ∧ (b161_).toNat < e160_.size then
        (pimpl_within k (wr.i64 (bt e160_ b161_)) 33 126).bind fun g162_ =>
        if (!g162_) = true then
          some (.ret false)
        else
          if 0 ≤ b161_ ∧ (b161_).toNat < e160_.size then
            if ((bt e160_ b161_) == 39) = true then
              some (.ret false)
            else
              if 0 ≤ b161_ ∧ (b161_).toNat < e160_.size then
                if ((bt e160_ b161_) == 34) = true then
                  some (.ret false)
                else
                  pimpl_nameOk_L1 k e160_ m (wr.i64 (b161_ + 1))
              else none
          else none
      else none
    else
      some (.done ())
/-- impl.nameOk -/
def pimpl_nameOk (k : Nat) (e160_ : ByteArray) : Option Bool :=
  (pimpl_nameOk_L1 k e160_ k 0).bind fun out1 => match out1 with
  | .ret r => some r
  | .done () =>
    (pimpl_within k (e160_.size : Int) 1 20).bind fun g163_ =>
    some g163_
theorem cimpl_nameOk {k : Nat} {e160_ : ByteArray} {r : Bool} (h : pimpl_nameOk k e160_ = some r) : FnO Try.prog 91 [.v (.str e160_) []] (.v (.bool r) []) [] := by
  refine FnO.of Try.func91 (rfl : Try.f91.body = some _) (Nat.le_of_ble_eq_true (by kernel_rfl)) (Nat.le_of_ble_eq_true (by kernel_rfl)) ?_
  intro w0 X0 Fin pv0 pb
  unfold pimpl_nameOk at h
  refine Wc.seq ?_
  refine Wc.region [] [] [0] [] [] ⟨[(0, (.v (.str e160_), []))], [], []⟩ _ (by kernel_rfl) .nil ?_
  refine Wc.seq ?_
  refine Wc.seq ?_
  refine Wc.region [] [] [0, 3] [] [] ⟨[(0, (.v (.str e160_), [])), (3, (.v (.int .i64 0), []))], [], []⟩ _ (by kernel_rfl) .nil ?_
  obtain ⟨out1, h152, h⟩ := obind h
  refine Wc.lastJ (fun st => out1 = .done () ∧ st = ⟨[(0, (.v (.str e160_), []))], [], []⟩) ?_ ?_
  · refine Wc.block ?_
    refine Wc.loop (fun m st => ∃ (b161_ : Int), st = ⟨[(0, (.v (.str e160_), [])), (3, (.v (.int .i64 b161_), []))], [], []⟩ ∧ pimpl_nameOk_L1 k e160_ m b161_ = some out1) ?_ k ⟨_, rfl, h152⟩
    rintro m st ⟨b161_, rfl, h152⟩
    cases m with
    | zero => exact (onone h152).elim
    | succ m =>
      refine Wc.seq ?_
      refine Wc.seq ?_
      refine Wc.region [] [] [0, 3, 7] [] [] ⟨[(0, (.v (.str e160_), [])), (3, (.v (.int .i64 b161_), [])), (7, (.v (.bool (decide (b161_ < (e160_.size : Int)))), []))], [], []⟩ _ (by kernel_rfl) .nil ?_
      rcases oif h152 with ⟨h153, h152⟩ | ⟨h153, h152⟩
      · refine Wc.condT h153 (by kernel_rfl) ?_
        refine Wc.fix (st' := ⟨[(0, (.v (.str e160_), [])), (3, (.v (.int .i64 b161_), []))], [], []⟩) [] [0, 3] [] [] (by kernel_rfl) ?_
        refine Wc.skip ?_
        refine Wc.seq ?_
        refine Wc.block ?_
        refine Wc.seq ?_
        obtain ⟨h154, h152⟩ := oguard h152
        obtain ⟨g162_, h155, h152⟩ := obind h152
        rcases oif h152 with ⟨h156, h152⟩ | ⟨h156, h152⟩
        · refine Wc.region [{}, {}, {}, {}, { r := some (.v (.bool g162_) []) }, {}, { re := some (.bool true) }] [] [0, 3, 27] [] [] ⟨[(0, (.v (.str e160_), [])), (3, (.v (.int .i64 b161_), [])), (27, (.v (.bool true), []))], [], []⟩ _ (by kernel_rfl) (.cons h154 (.cons (cimpl_within h155) (.cons (congrArg AV.bool h156) .nil))) ?_
          refine Wc.condT rfl (by kernel_rfl) ?_
          refine Wc.seq ?_
          refine Wc.region [] [] [2] [] [] ⟨[(2, (.v (.bool false), []))], [], []⟩ _ (by kernel_rfl) .nil ?_
          refine Wc.ret ?_
          obtain rfl := Option.some.inj h152
          obtain rfl := Option.some.inj h
          exact ⟨.inl rfl, by kernel_rfl, by kernel_rfl⟩
        · obtain ⟨h157, h152⟩ := oguard h152
          rcases oif h152 with ⟨h158, h152⟩ | ⟨h158, h152⟩
          · refine Wc.region [{}, {}, {}, {}, { r := some (.v (.bool g162_) []) }, {}, { re := some (.bool false) }, {}, {}, {}, {}, {}, { re := some (.bool true) }] [] [0, 3, 27] [] [] ⟨[(0, (.v (.str e160_), [])), (3, (.v (.int .i64 b161_), [])), (27, (.v (.bool true), []))], [], []⟩ _ (by kernel_rfl) (.cons h154 (.cons (cimpl_within h155) (.cons (congrArg AV.bool h156) (.cons h157 (.cons (congrArg AV.bool h158) .nil))))) ?_
            refine Wc.condT rfl (by kernel_rfl) ?_
            refine Wc.seq ?_
            refine Wc.region [] [] [2] [] [] ⟨[(2, (.v (.bool false), []))], [], []⟩ _ (by kernel_rfl) .nil ?_
            refine Wc.ret ?_
            obtain rfl := Option.some.inj h152
            obtain rfl := Option.some.inj h
            exact ⟨.inl rfl, by kernel_rfl, by kernel_rfl⟩
          · obtain ⟨h159, h152⟩ := oguard h152
            refine Wc.region [{}, {}, {}, {}, { r := some (.v (.bool g162_) []) }, {}, { re := some (.bool false) }, {}, {}, {}, {}, {}, { re := some (.bool false) }] [] [0, 3, 27] [] [] ⟨[(0, (.v (.str e160_), [])), (3, (.v (.int .i64 b161_), [])), (27, (.v (.bool ((bt e160_ b161_) == 34)), []))], [], []⟩ _ (by kernel_rfl) (.cons h154 (.cons (cimpl_within h155) (.cons (congrArg AV.bool h156) (.cons h157 (.cons (congrArg AV.bool h158) (.cons h159 .nil)))))) ?_
            rcases oif h152 with ⟨h160, h152⟩ | ⟨h160, h152⟩
            · refine Wc.condT h160 (by kernel_rfl) ?_
              refine Wc.seq ?_
              refine Wc.region [] [] [2] [] [] ⟨[(2, (.v (.bool false), []))], [], []⟩ _ (by kernel_rfl) .nil ?_
              refine Wc.ret ?_
              obtain rfl := Option.some.inj h152
              obtain rfl := Option.some.inj h
              exact ⟨.inl rfl, by kernel_rfl, by kernel_rfl⟩
            · refine Wc.condF h160 (by kernel_rfl) ?_
              refine Wc.fix (st' := ⟨[(0, (.v (.str e160_), [])), (3, (.v (.int .i64 b161_), []))], [], []⟩) [] [0, 3] [] [] (by kernel_rfl) ?_
              refine Wc.skip ?_
              refine Wc.region [] [] [0, 3] [] [] ⟨[(0, (.v (.str e160_), [])), (3, (.v (.int .i64 (wr.i64 (b161_ + 1))), []))], [], []⟩ _ (by kernel_rfl) .nil ?_
              exact ⟨_, Nat.lt_succ_self _, _, rfl, h152⟩
      · refine Wc.condF h153 (by kernel_rfl) ?_
        refine Wc.fix (st' := ⟨[(0, (.v (.str e160_), []))], [], []⟩) [] [0] [] [] (by kernel_rfl) ?_
        refine Wc.exit ?_
        obtain rfl := Option.some.inj h152
        exact ⟨rfl, rfl⟩
  · rintro st ⟨rfl, rfl⟩
    refine Wc.seq ?_
    obtain ⟨g163_, h161, h⟩ := obind h
    refine Wc.region [{}, {}, { r := some (.v (.bool g163_) []) }] [] [2] [] [] ⟨[(2, (.v (.bool g163_), []))], [], []⟩ _ (by kernel_rfl) (.cons (cimpl_within h161) .nil) ?_
    refine Wc.ret ?_
    obtain rfl := Option.some.inj h
    exact ⟨.inl rfl, by kernel_rfl, by kernel_rfl⟩

def pimpl_sized_L2 (k : Nat) (rimpl_sized : GTerm → Int → Option Int) (f164_ : GTerm) (b165_ : Int) : Nat → Int → Int → Option (Out Int Int)
  | 0, _, _ => none
  | m + 1, b166_, b167_ =>
    if (decide (b167_ < (f164_.gKids.length : Int))) = true then
      (at' f164_.gKids b167_).bind fun f169_ =>
      (rimpl_sized f169_ (wr.i64 (b165_ + 1))).bind fun b170_ =>
      if (decide ((wr.i64 (b166_ + b170_)) > 400)) = true then
        some (.ret 401)
      else
        pimpl_sized_L2 k rimpl_sized f164_ b165_ m (wr.i64 (b166_ + b170_)) (wr.i64 (b167_ + 1))
    else
      some (.done b166_)
def pimpl_sized_J1 (k : Nat) (rimpl_sized : GTerm → Int → Option Int) (f164_ : GTerm) (b165_ : Int) : Option Int :=
  (pimpl_sized_L2 k rimpl_sized f164_ b165_ k 1 0).bind fun out2 => match out2 with
  | .ret r => some r
  | .done b168_ =>
    some b168_
mutual
/-- impl.sized -/
def pimpl_sized : Nat → GTerm → Int → Option Int
  | 0, _, _ => none
  | k + 1, f164_, b165_ =>
    if (decide (b165_ > 40)) = true then
      some 401
    else
      if (f164_.gKind == 1) = true then
        if (!(sEq f164_.gName (bs []))) = true then
          some 401
        else
          (pimpl_within k f164_.gNum 0 99999).bind fun g171_ =>
          if (!g171_) = true then
            some 401
          else
            if (decide ((f164_.gKids.length : Int) > 0)) = true then
              some 401
            else
              pimpl_sized_J1 k (pimpl_sized k) f164_ b165_
      else
        if (f164_.gKind == 2) = true then
          (pimpl_nameOk k f164_.gName).bind fun g172_ =>
          if (!g172_) = true then
            some 401
          else
            if (f164_.gNum != 0) = true then
              some 401
            else
              if (decide ((f164_.gKids.length : Int) > 0)) = true then
                some 401
              else
                pimpl_sized_J1 k (pimpl_sized k) f164_ b165_
        else
          if (f164_.gKind == 3) = true then
            if (!(sEq f164_.gName (bs []))) = true then
              some 401
            else
              (pimpl_within k f164_.gNum (-999999999) 999999999).bind fun g173_ =>
              if (!g173_) = true then
                some 401
              else
                if (decide ((f164_.gKids.length : Int) > 0)) = true then
                  some 401
                else
                  pimpl_sized_J1 k (pimpl_sized k) f164_ b165_
          else
            if (f164_.gKind == 4) = true then
              (pimpl_nameOk k f164_.gName).bind fun g174_ =>
              if (!g174_) = true then
                some 401
              else
                if (f164_.gNum != 0) = true then
                  some 401
                else
                  (pimpl_within k (f164_.gKids.length : Int) 1 5).bind fun g175_ =>
                  if (!g175_) = true then
                    some 401
                  else
                    pimpl_sized_J1 k (pimpl_sized k) f164_ b165_
            else
              some 401
end
set_option maxHeartbeats 4000000 in
theorem all_pimpl_sized : ∀ k : Nat, (∀ {f164_ : GTerm} {b165_ : Int} {r : Int}, pimpl_sized k f164_ b165_ = some r → FnO Try.prog 129 [.v (.agg [.int .i64 f164_.gKind, .str f164_.gName, .int .i64 f164_.gNum, .sl (List.map GTerm.c f164_.gKids)]) [], .v (.int .i64 b165_) []] (.v (.int .i64 r) []) []) := by
  intro k
  induction k with
  | zero =>
    · intro f164_ b165_ r h
      exact (onone (by rw [pimpl_sized] at h; exact h)).elim
  | succ k ih =>
    have ih_pimpl_sized := @ih
    · intro f164_ b165_ r h
      rw [pimpl_sized] at h
      refine FnO.of Try.func129 (rfl : Try.f129.body = some _) (Nat.le_of_ble_eq_true (by kernel_rfl)) (Nat.le_of_ble_eq_true (by kernel_rfl)) ?_
      intro w0 X0 Fin pv0 pb
      refine Wc.seq ?_
      refine Wc.region [] [] [1, 2] [2] [] ⟨[(1, (.v (.int .i64 b165_), [])), (2, (.ptr 2 0, []))], [(2, .cells [.int .i64 f164_.gKind, .str f164_.gName, .int .i64 f164_.gNum, .sl (List.map GTerm.c f164_.gKids)] [])], []⟩ _ (by kernel_rfl) .nil ?_
      refine Wc.seq ?_
      refine Wc.seq ?_
      refine Wc.region [] [] [1, 2, 9] [2] [] ⟨[(1, (.v (.int .i64 b165_), [])), (2, (.ptr 2 0, [])), (9, (.v (.bool (decide (b165_ > 40))), []))], [(2, .cells [.int .i64 f164_.gKind, .str f164_.gName, .int .i64 f164_.gNum, .sl (List.map GTerm.c f164_.gKids)] [])], []⟩ _ (by kernel_rfl) .nil ?_
      rcases oif h with ⟨h162, h⟩ | ⟨h162, h⟩
      · refine Wc.condT h162 (by kernel_rfl) ?_
        refine Wc.seq ?_
        refine Wc.region [] [] [4] [] [] ⟨[(4, (.v (.int .i64 401), []))], [], []⟩ _ (by kernel_rfl) .nil ?_
        refine Wc.ret ?_
        obtain rfl := Option.some.inj h
        exact ⟨.inl rfl, by kernel_rfl, by kernel_rfl⟩
      · refine Wc.condF h162 (by kernel_rfl) ?_
        refine Wc.fix (st' := ⟨[(1, (.v (.int .i64 b165_), [])), (2, (.ptr 2 0, []))], [(2, .cells [.int .i64 f164_.gKind, .str f164_.gName, .int .i64 f164_.gNum, .sl (List.map GTerm.c f164_.gKids)] [])], []⟩) [] [1, 2] [2] [] (by kernel_rfl) ?_
        refine Wc.skip ?_
        refine Wc.seqJ (fun st => st = ⟨[(1, (.v (.int .i64 b165_), [])), (2, (.ptr 2 0, []))], [(2, .cells [.int .i64 f164_.gKind, .str f164_.gName, .int .i64 f164_.gNum, .sl (List.map GTerm.c f164_.gKids)] [])], []⟩ ∧ pimpl_sized_J1 k (pimpl_sized k) f164_ b165_ = some r) ?_ ?_
        · refine Wc.seq ?_
          refine Wc.region [] [] [1, 2, 11] [2] [] ⟨[(1, (.v (.int .i64 b165_), [])), (2, (.ptr 2 0, [])), (11, (.v (.int .i64 f164_.gKind), []))], [(2, .cells [.int .i64 f164_.gKind, .str f164_.gName, .int .i64 f164_.gNum, .sl (List.map GTerm.c f164_.gKids)] [])], []⟩ _ (by kernel_rfl) .nil ?_
          refine Wc.block ?_
          refine Wc.seq ?_
          refine Wc.region [] [] [1, 2, 11, 12] [2] [] ⟨[(1, (.v (.int .i64 b165_), [])), (2, (.ptr 2 0, [])), (11, (.v (.int .i64 f164_.gKind), [])), (12, (.v (.bool (f164_.gKind == 1)), []))], [(2, .cells [.int .i64 f164_.gKind, .str f164_.gName, .int .i64 f164_.gNum, .sl (List.map GTerm.c f164_.gKids)] [])], []⟩ _ (by kernel_rfl) .nil ?_
          rcases oif h with ⟨h168, h⟩ | ⟨h168, h⟩
          · refine Wc.condT h168 (by kernel_rfl) ?_
            refine Wc.seq ?_
            rcases oif h with ⟨h169, h⟩ | ⟨h169, h⟩
            · refine Wc.region [{}, {}, {}, { re := some (.bool true) }] [] [1, 2, 28] [2] [] ⟨[(1, (.v (.int .i64 b165_), [])), (2, (.ptr 2 0, [])), (28, (.v (.bool true), []))], [(2, .cells [.int .i64 f164_.gKind, .str f164_.gName, .int .i64 f164_.gNum, .sl (List.map GTerm.c f164_.gKids)] [])], []⟩ _ (by kernel_rfl) (.cons (congrArg AV.bool h169) .nil) ?_
              refine Wc.condT rfl (by kernel_rfl) ?_
              refine Wc.seq ?_
              refine Wc.region [] [] [4] [] [] ⟨[(4, (.v (.int .i64 401), []))], [], []⟩ _ (by kernel_rfl) .nil ?_
              refine Wc.ret ?_
              obtain rfl := Option.some.inj h
              exact ⟨.inl rfl, by kernel_rfl, by kernel_rfl⟩
            · obtain ⟨g171_, h170, h⟩ := obind h
              rcases oif h with ⟨h171, h⟩ | ⟨h171, h⟩
              · refine Wc.region [{}, {}, {}, { re := some (.bool false) }, {}, {}, { r := some (.v (.bool g171_) []) }, {}, {}, { re := some (.bool true) }] [] [1, 2, 28] [2] [] ⟨[(1, (.v (.int .i64 b165_), [])), (2, (.ptr 2 0, [])), (28, (.v (.bool true), []))], [(2, .cells [.int .i64 f164_.gKind, .str f164_.gName, .int .i64 f164_.gNum, .sl (List.map GTerm.c f164_.gKids)] [])], []⟩ _ (by kernel_rfl) (.cons (congrArg AV.bool h169) (.cons (cimpl_within h170) (.cons (congrArg AV.bool h171) .nil))) ?_
                refine Wc.condT rfl (by kernel_rfl) ?_
                refine Wc.seq ?_
                refine Wc.region [] [] [4] [] [] ⟨[(4, (.v (.int .i64 401), []))], [], []⟩ _ (by kernel_rfl) .nil ?_
                refine Wc.ret ?_
                obtain rfl := Option.some.inj h
                exact ⟨.inl rfl, by kernel_rfl, by kernel_rfl⟩
              · refine Wc.region [{}, {}, {}, { re := some (.bool false) }, {}, {}, { r := some (.v (.bool g171_) []) }, {}, {}, { re := some (.bool false) }, {}, {}, { v := some (.int .i64 (f164_.gKids.length : Int)) }] [] [1, 2, 28] [2] [] ⟨[(1, (.v (.int .i64 b165_), [])), (2, (.ptr 2 0, [])), (28, (.v (.bool (decide ((f164_.gKids.length : Int) > 0))), []))], [(2, .cells [.int .i64 f164_.gKind, .str f164_.gName, .int .i64 f164_.gNum, .sl (List.map GTerm.c f164_.gKids)] [])], []⟩ _ (by kernel_rfl) (.cons (congrArg AV.bool h169) (.cons (cimpl_within h170) (.cons (congrArg AV.bool h171) (.cons (len_obl GTerm.c f164_.gKids) .nil)))) ?_
                rcases oif h with ⟨h172, h⟩ | ⟨h172, h⟩
                · refine Wc.condT h172 (by kernel_rfl) ?_
                  refine Wc.seq ?_
                  refine Wc.region [] [] [4] [] [] ⟨[(4, (.v (.int .i64 401), []))], [], []⟩ _ (by kernel_rfl) .nil ?_
                  refine Wc.ret ?_
                  obtain rfl := Option.some.inj h
                  exact ⟨.inl rfl, by kernel_rfl, by kernel_rfl⟩
                · refine Wc.condF h172 (by kernel_rfl) ?_
                  refine Wc.fix (st' := ⟨[(1, (.v (.int .i64 b165_), [])), (2, (.ptr 2 0, []))], [(2, .cells [.int .i64 f164_.gKind, .str f164_.gName, .int .i64 f164_.gNum, .sl (List.map GTerm.c f164_.gKids)] [])], []⟩) [] [1, 2] [2] [] (by kernel_rfl) ?_
                  refine Wc.skip ?_
                  exact ⟨rfl, h⟩
          · refine Wc.condF h168 (by kernel_rfl) ?_
            refine Wc.seq ?_
            refine Wc.region [] [] [1, 2, 11, 29] [2] [] ⟨[(1, (.v (.int .i64 b165_), [])), (2, (.ptr 2 0, [])), (11, (.v (.int .i64 f164_.gKind), [])), (29, (.v (.bool (f164_.gKind == 2)), []))], [(2, .cells [.int .i64 f164_.gKind, .str f164_.gName, .int .i64 f164_.gNum, .sl (List.map GTerm.c f164_.gKids)] [])], []⟩ _ (by kernel_rfl) .nil ?_
            rcases oif h with ⟨h173, h⟩ | ⟨h173, h⟩
            · refine Wc.condT h173 (by kernel_rfl) ?_
              refine Wc.seq ?_
              obtain ⟨g172_, h174, h⟩ := obind h
              rcases oif h with ⟨h175, h⟩ | ⟨h175, h⟩
              · refine Wc.region [{}, {}, { r := some (.v (.bool g172_) []) }, {}, { re := some (.bool true) }] [] [1, 2, 45] [2] [] ⟨[(1, (.v (.int .i64 b165_), [])), (2, (.ptr 2 0, [])), (45, (.v (.bool true), []))], [(2, .cells [.int .i64 f164_.gKind, .str f164_.gName, .int .i64 f164_.gNum, .sl (List.map GTerm.c f164_.gKids)] [])], []⟩ _ (by kernel_rfl) (.cons (cimpl_nameOk h174) (.cons (congrArg AV.bool h175) .nil)) ?_
                refine Wc.condT rfl (by kernel_rfl) ?_
                refine Wc.seq ?_
                refine Wc.region [] [] [4] [] [] ⟨[(4, (.v (.int .i64 401), []))], [], []⟩ _ (by kernel_rfl) .nil ?_
                refine Wc.ret ?_
                obtain rfl := Option.some.inj h
                exact ⟨.inl rfl, by kernel_rfl, by kernel_rfl⟩
              · rcases oif h with ⟨h176, h⟩ | ⟨h176, h⟩
                · refine Wc.region [{}, {}, { r := some (.v (.bool g172_) []) }, {}, { re := some (.bool false) }, {}, {}, {}, {}, { re := some (.bool true) }] [] [1, 2, 45] [2] [] ⟨[(1, (.v (.int .i64 b165_), [])), (2, (.ptr 2 0, [])), (45, (.v (.bool true), []))], [(2, .cells [.int .i64 f164_.gKind, .str f164_.gName, .int .i64 f164_.gNum, .sl (List.map GTerm.c f164_.gKids)] [])], []⟩ _ (by kernel_rfl) (.cons (cimpl_nameOk h174) (.cons (congrArg AV.bool h175) (.cons (congrArg AV.bool h176) .nil))) ?_
                  refine Wc.condT rfl (by kernel_rfl) ?_
                  refine Wc.seq ?_
                  refine Wc.region [] [] [4] [] [] ⟨[(4, (.v (.int .i64 401), []))], [], []⟩ _ (by kernel_rfl) .nil ?_
                  refine Wc.ret ?_
                  obtain rfl := Option.some.inj h
                  exact ⟨.inl rfl, by kernel_rfl, by kernel_rfl⟩
                · refine Wc.region [{}, {}, { r := some (.v (.bool g172_) []) }, {}, { re := some (.bool false) }, {}, {}, {}, {}, { re := some (.bool false) }, {}, {}, { v := some (.int .i64 (f164_.gKids.length : Int)) }] [] [1, 2, 45] [2] [] ⟨[(1, (.v (.int .i64 b165_), [])), (2, (.ptr 2 0, [])), (45, (.v (.bool (decide ((f164_.gKids.length : Int) > 0))), []))], [(2, .cells [.int .i64 f164_.gKind, .str f164_.gName, .int .i64 f164_.gNum, .sl (List.map GTerm.c f164_.gKids)] [])], []⟩ _ (by kernel_rfl) (.cons (cimpl_nameOk h174) (.cons (congrArg AV.bool h175) (.cons (congrArg AV.bool h176) (.cons (len_obl GTerm.c f164_.gKids) .nil)))) ?_
                  rcases oif h with ⟨h177, h⟩ | ⟨h177, h⟩
                  · refine Wc.condT h177 (by kernel_rfl) ?_
                    refine Wc.seq ?_
                    refine Wc.region [] [] [4] [] [] ⟨[(4, (.v (.int .i64 401), []))], [], []⟩ _ (by kernel_rfl) .nil ?_
                    refine Wc.ret ?_
                    obtain rfl := Option.some.inj h
                    exact ⟨.inl rfl, by kernel_rfl, by kernel_rfl⟩
                  · refine Wc.condF h177 (by kernel_rfl) ?_
                    refine Wc.fix (st' := ⟨[(1, (.v (.int .i64 b165_), [])), (2, (.ptr 2 0, []))], [(2, .cells [.int .i64 f164_.gKind, .str f164_.gName, .int .i64 f164_.gNum, .sl (List.map GTerm.c f164_.gKids)] [])], []⟩) [] [1, 2] [2] [] (by kernel_rfl) ?_
                    refine Wc.skip ?_
                    exact ⟨rfl, h⟩
            · refine Wc.condF h173 (by kernel_rfl) ?_
              refine Wc.seq ?_
              refine Wc.region [] [] [1, 2, 11, 46] [2] [] ⟨[(1, (.v (.int .i64 b165_), [])), (2, (.ptr 2 0, [])), (11, (.v (.int .i64 f164_.gKind), [])), (46, (.v (.bool (f164_.gKind == 3)), []))], [(2, .cells [.int .i64 f164_.gKind, .str f164_.gName, .int .i64 f164_.gNum, .sl (List.map GTerm.c f164_.gKids)] [])], []⟩ _ (by kernel_rfl) .nil ?_
              rcases oif h with ⟨h178, h⟩ | ⟨h178, h⟩
              · refine Wc.condT h178 (by kernel_rfl) ?_
                refine Wc.seq ?_
                rcases oif h with ⟨h179, h⟩ | ⟨h179, h⟩
                · refine Wc.region [{}, {}, {}, { re := some (.bool true) }] [] [1, 2, 62] [2] [] ⟨[(1, (.v (.int .i64 b165_), [])), (2, (.ptr 2 0, [])), (62, (.v (.bool true), []))], [(2, .cells [.int .i64 f164_.gKind, .str f164_.gName, .int .i64 f164_.gNum, .sl (List.map GTerm.c f164_.gKids)] [])], []⟩ _ (by kernel_rfl) (.cons (congrArg AV.bool h179) .nil) ?_
                  refine Wc.condT rfl (by kernel_rfl) ?_
                  refine Wc.seq ?_
                  refine Wc.region [] [] [4] [] [] ⟨[(4, (.v (.int .i64 401), []))], [], []⟩ _ (by kernel_rfl) .nil ?_
                  refine Wc.ret ?_
                  obtain rfl := Option.some.inj h
                  exact ⟨.inl rfl, by kernel_rfl, by kernel_rfl⟩
                · obtain ⟨g173_, h180, h⟩ := obind h
                  rcases oif h with ⟨h181, h⟩ | ⟨h181, h⟩
                  · refine Wc.region [{}, {}, {}, { re := some (.bool false) }, {}, {}, { r := some (.v (.bool g173_) []) }, {}, {}, { re := some (.bool true) }] [] [1, 2, 62] [2] [] ⟨[(1, (.v (.int .i64 b165_), [])), (2, (.ptr 2 0, [])), (62, (.v (.bool true), []))], [(2, .cells [.int .i64 f164_.gKind, .str f164_.gName, .int .i64 f164_.gNum, .sl (List.map GTerm.c f164_.gKids)] [])], []⟩ _ (by kernel_rfl) (.cons (congrArg AV.bool h179) (.cons (cimpl_within h180) (.cons (congrArg AV.bool h181) .nil))) ?_
                    refine Wc.condT rfl (by kernel_rfl) ?_
                    refine Wc.seq ?_
                    refine Wc.region [] [] [4] [] [] ⟨[(4, (.v (.int .i64 401), []))], [], []⟩ _ (by kernel_rfl) .nil ?_
                    refine Wc.ret ?_
                    obtain rfl := Option.some.inj h
                    exact ⟨.inl rfl, by kernel_rfl, by kernel_rfl⟩
                  · refine Wc.region [{}, {}, {}, { re := some (.bool false) }, {}, {}, { r := some (.v (.bool g173_) []) }, {}, {}, { re := some (.bool false) }, {}, {}, { v := some (.int .i64 (f164_.gKids.length : Int)) }] [] [1, 2, 62] [2] [] ⟨[(1, (.v (.int .i64 b165_), [])), (2, (.ptr 2 0, [])), (62, (.v (.bool (decide ((f164_.gKids.length : Int) > 0))), []))], [(2, .cells [.int .i64 f164_.gKind, .str f164_.gName, .int .i64 f164_.gNum, .sl (List.map GTerm.c f164_.gKids)] [])], []⟩ _ (by kernel_rfl) (.cons (congrArg AV.bool h179) (.cons (cimpl_within h180) (.cons (congrArg AV.bool h181) (.cons (len_obl GTerm.c f164_.gKids) .nil)))) ?_
                    rcases oif h with ⟨h182, h⟩ | ⟨h182, h⟩
                    · refine Wc.condT h182 (by kernel_rfl) ?_
                      refine Wc.seq ?_
                      refine Wc.region [] [] [4] [] [] ⟨[(4, (.v (.int .i64 401), []))], [], []⟩ _ (by kernel_rfl) .nil ?_
                      refine Wc.ret ?_
                      obtain rfl := Option.some.inj h
                      exact ⟨.inl rfl, by kernel_rfl, by kernel_rfl⟩
                    · refine Wc.condF h182 (by kernel_rfl) ?_
                      refine Wc.fix (st' := ⟨[(1, (.v (.int .i64 b165_), [])), (2, (.ptr 2 0, []))], [(2, .cells [.int .i64 f164_.gKind, .str f164_.gName, .int .i64 f164_.gNum, .sl (List.map GTerm.c f164_.gKids)] [])], []⟩) [] [1, 2] [2] [] (by kernel_rfl) ?_
                      refine Wc.skip ?_
                      exact ⟨rfl, h⟩
              · refine Wc.condF h178 (by kernel_rfl) ?_
                refine Wc.seq ?_
                refine Wc.region [] [] [1, 2, 63] [2] [] ⟨[(1, (.v (.int .i64 b165_), [])), (2, (.ptr 2 0, [])), (63, (.v (.bool (f164_.gKind == 4)), []))], [(2, .cells [.int .i64 f164_.gKind, .str f164_.gName, .int .i64 f164_.gNum, .sl (List.map GTerm.c f164_.gKids)] [])], []⟩ _ (by kernel_rfl) .nil ?_
                rcases oif h with ⟨h183, h⟩ | ⟨h183, h⟩
                · refine Wc.condT h183 (by kernel_rfl) ?_
                  refine Wc.seq ?_
                  obtain ⟨g174_, h184, h⟩ := obind h
                  rcases oif h with ⟨h185, h⟩ | ⟨h185, h⟩
                  · refine Wc.region [{}, {}, { r := some (.v (.bool g174_) []) }, {}, { re := some (.bool true) }] [] [1, 2, 80] [2] [] ⟨[(1, (.v (.int .i64 b165_), [])), (2, (.ptr 2 0, [])), (80, (.v (.bool true), []))], [(2, .cells [.int .i64 f164_.gKind, .str f164_.gName, .int .i64 f164_.gNum, .sl (List.map GTerm.c f164_.gKids)] [])], []⟩ _ (by kernel_rfl) (.cons (cimpl_nameOk h184) (.cons (congrArg AV.bool h185) .nil)) ?_
                    refine Wc.condT rfl (by kernel_rfl) ?_
                    refine Wc.seq ?_
                    refine Wc.region [] [] [4] [] [] ⟨[(4, (.v (.int .i64 401), []))], [], []⟩ _ (by kernel_rfl) .nil ?_
                    refine Wc.ret ?_
                    obtain rfl := Option.some.inj h
                    exact ⟨.inl rfl, by kernel_rfl, by kernel_rfl⟩
                  · rcases oif h with ⟨h186, h⟩ | ⟨h186, h⟩
                    · refine Wc.region [{}, {}, { r := some (.v (.bool g174_) []) }, {}, { re := some (.bool false) }, {}, {}, {}, {}, { re := some (.bool true) }] [] [1, 2, 80] [2] [] ⟨[(1, (.v (.int .i64 b165_), [])), (2, (.ptr 2 0, [])), (80, (.v (.bool true), []))], [(2, .cells [.int .i64 f164_.gKind, .str f164_.gName, .int .i64 f164_.gNum, .sl (List.map GTerm.c f164_.gKids)] [])], []⟩ _ (by kernel_rfl) (.cons (cimpl_nameOk h184) (.cons (congrArg AV.bool h185) (.cons (congrArg AV.bool h186) .nil))) ?_
                      refine Wc.condT rfl (by kernel_rfl) ?_
                      refine Wc.seq ?_
                      refine Wc.region [] [] [4] [] [] ⟨[(4, (.v (.int .i64 401), []))], [], []⟩ _ (by kernel_rfl) .nil ?_
                      refine Wc.ret ?_
                      obtain rfl := Option.some.inj h
                      exact ⟨.inl rfl, by kernel_rfl, by kernel_rfl⟩
                    · obtain ⟨g175_, h187, h⟩ := obind h
                      refine Wc.region [{}, {}, { r := some (.v (.bool g174_) []) }, {}, { re := some (.bool false) }, {}, {}, {}, {}, { re := some (.bool false) }, {}, {}, { v := some (.int .i64 (f164_.gKids.length : Int)) }, { r := some (.v (.bool g175_) []) }] [] [1, 2, 80] [2] [] ⟨[(1, (.v (.int .i64 b165_), [])), (2, (.ptr 2 0, [])), (80, (.v (.bool (!g175_)), []))], [(2, .cells [.int .i64 f164_.gKind, .str f164_.gName, .int .i64 f164_.gNum, .sl (List.map GTerm.c f164_.gKids)] [])], []⟩ _ (by kernel_rfl) (.cons (cimpl_nameOk h184) (.cons (congrArg AV.bool h185) (.cons (congrArg AV.bool h186) (.cons (len_obl GTerm.c f164_.gKids) (.cons (cimpl_within h187) .nil))))) ?_
                      rcases oif h with ⟨h188, h⟩ | ⟨h188, h⟩
                      · refine Wc.condT h188 (by kernel_rfl) ?_
                        refine Wc.seq ?_
                        refine Wc.region [] [] [4] [] [] ⟨[(4, (.v (.int .i64 401), []))], [], []⟩ _ (by kernel_rfl) .nil ?_
                        refine Wc.ret ?_
                        obtain rfl := Option.some.inj h
                        exact ⟨.inl rfl, by kernel_rfl, by kernel_rfl⟩
                      · refine Wc.condF h188 (by kernel_rfl) ?_
                        refine Wc.fix (st' := ⟨[(1, (.v (.int .i64 b165_), [])), (2, (.ptr 2 0, []))], [(2, .cells [.int .i64 f164_.gKind, .str f164_.gName, .int .i64 f164_.gNum, .sl (List.map GTerm.c f164_.gKids)] [])], []⟩) [] [1, 2] [2] [] (by kernel_rfl) ?_
                        refine Wc.skip ?_
                        exact ⟨rfl, h⟩
                · refine Wc.condF h183 (by kernel_rfl) ?_
                  refine Wc.seq ?_
                  refine Wc.region [] [] [4] [] [] ⟨[(4, (.v (.int .i64 401), []))], [], []⟩ _ (by kernel_rfl) .nil ?_
                  refine Wc.ret ?_
                  obtain rfl := Option.some.inj h
                  exact ⟨.inl rfl, by kernel_rfl, by kernel_rfl⟩
        · rintro st ⟨rfl, h⟩
          refine Wc.seq ?_
          refine Wc.region [] [] [1, 2, 5] [2] [] ⟨[(1, (.v (.int .i64 b165_), [])), (2, (.ptr 2 0, [])), (5, (.v (.int .i64 1), []))], [(2, .cells [.int .i64 f164_.gKind, .str f164_.gName, .int .i64 f164_.gNum, .sl (List.map GTerm.c f164_.gKids)] [])], []⟩ _ (by kernel_rfl) .nil ?_
          refine Wc.seq ?_
          refine Wc.seq ?_
          refine Wc.region [{}, {}, { v := some (.int .i64 (f164_.gKids.length : Int)) }] [] [1, 5, 82, 83, 84] [] [] ⟨[(1, (.v (.int .i64 b165_), [])), (5, (.v (.int .i64 1), [])), (82, (.v (.sl (List.map GTerm.c f164_.gKids)), [])), (83, (.v (.int .i64 (f164_.gKids.length : Int)), [])), (84, (.v (.int .i64 0), []))], [], []⟩ _ (by kernel_rfl) (.cons (len_obl GTerm.c f164_.gKids) .nil) ?_
          obtain ⟨out2, h163, h⟩ := obind h
          refine Wc.lastJ (fun st => ∃ (b168_ : Int), out2 = .done b168_ ∧ st = ⟨[(5, (.v (.int .i64 b168_), []))], [], []⟩) ?_ ?_
          · refine Wc.block ?_
            refine Wc.loop (fun m st => ∃ (b166_ : Int) (b167_ : Int), st = ⟨[(1, (.v (.int .i64 b165_), [])), (5, (.v (.int .i64 b166_), [])), (82, (.v (.sl (List.map GTerm.c f164_.gKids)), [])), (83, (.v (.int .i64 (f164_.gKids.length : Int)), [])), (84, (.v (.int .i64 b167_), []))], [], []⟩ ∧ pimpl_sized_L2 k (pimpl_sized k) f164_ b165_ m b166_ b167_ = some out2) ?_ k ⟨_, _, rfl, h163⟩
            rintro m st ⟨b166_, b167_, rfl, h163⟩
            cases m with
            | zero => exact (onone h163).elim
            | succ m =>
              refine Wc.seq ?_
              refine Wc.region [] [] [1, 5, 82, 83, 84, 85] [] [] ⟨[(1, (.v (.int .i64 b165_), [])), (5, (.v (.int .i64 b166_), [])), (82, (.v (.sl (List.map GTerm.c f164_.gKids)), [])), (83, (.v (.int .i64 (f164_.gKids.length : Int)), [])), (84, (.v (.int .i64 b167_), [])), (85, (.v (.bool (decide (b167_ < (f164_.gKids.length : Int)))), []))], [], []⟩ _ (by kernel_rfl) .nil ?_
              refine Wc.seq ?_
              rcases oif h163 with ⟨h164, h163⟩ | ⟨h164, h163⟩
              · refine Wc.condT h164 (by kernel_rfl) ?_
                refine Wc.fix (st' := ⟨[(1, (.v (.int .i64 b165_), [])), (5, (.v (.int .i64 b166_), [])), (82, (.v (.sl (List.map GTerm.c f164_.gKids)), [])), (83, (.v (.int .i64 (f164_.gKids.length : Int)), [])), (84, (.v (.int .i64 b167_), []))], [], []⟩) [] [1, 5, 82, 83, 84] [] [] (by kernel_rfl) ?_
                refine Wc.skip ?_
                refine Wc.seq ?_
                refine Wc.block ?_
                refine Wc.seq ?_
                obtain ⟨f169_, h165, h163⟩ := obind h163
                refine Wc.region [{ v := some (.vptr [.int .i64 f169_.gKind, .str f169_.gName, .int .i64 f169_.gNum, .sl (List.map GTerm.c f169_.gKids)]) }] [] [1, 5, 7, 82, 83, 84] [7] [] ⟨[(1, (.v (.int .i64 b165_), [])), (5, (.v (.int .i64 b166_), [])), (7, (.ptr 7 0, [])), (82, (.v (.sl (List.map GTerm.c f164_.gKids)), [])), (83, (.v (.int .i64 (f164_.gKids.length : Int)), [])), (84, (.v (.int .i64 b167_), []))], [(7, .cells [.int .i64 f169_.gKind, .str f169_.gName, .int .i64 f169_.gNum, .sl (List.map GTerm.c f169_.gKids)] [])], []⟩ _ (by kernel_rfl) (.cons (at_obl (c := GTerm.c) (GTerm.c_eq f169_) GTerm.c_len h165) (.cons (len_ok 4 [.int .i64 f169_.gKind, .str f169_.gName, .int .i64 f169_.gNum, .sl (List.map GTerm.c f169_.gKids)]) .nil)) ?_
                refine Wc.seq ?_
                obtain ⟨b170_, h166, h163⟩ := obind h163
                refine Wc.region [{}, {}, {}, {}, { r := some (.v (.int .i64 b170_) []) }] [] [1, 5, 82, 83, 84] [] [] ⟨[(1, (.v (.int .i64 b165_), [])), (5, (.v (.int .i64 (wr.i64 (b166_ + b170_))), [])), (82, (.v (.sl (List.map GTerm.c f164_.gKids)), [])), (83, (.v (.int .i64 (f164_.gKids.length : Int)), [])), (84, (.v (.int .i64 b167_), []))], [], []⟩ _ (by kernel_rfl) (.cons (ih_pimpl_sized h166) .nil) ?_
                refine Wc.seq ?_
                refine Wc.region [] [] [1, 5, 82, 83, 84, 95] [] [] ⟨[(1, (.v (.int .i64 b165_), [])), (5, (.v (.int .i64 (wr.i64 (b166_ + b170_))), [])), (82, (.v (.sl (List.map GTerm.c f164_.gKids)), [])), (83, (.v (.int .i64 (f164_.gKids.length : Int)), [])), (84, (.v (.int .i64 b167_), [])), (95, (.v (.bool (decide ((wr.i64 (b166_ + b170_)) > 400))), []))], [], []⟩ _ (by kernel_rfl) .nil ?_
                rcases oif h163 with ⟨h167, h163⟩ | ⟨h167, h163⟩
                · refine Wc.condT h167 (by kernel_rfl) ?_
                  refine Wc.seq ?_
                  refine Wc.region [] [] [4] [] [] ⟨[(4, (.v (.int .i64 401), []))], [], []⟩ _ (by kernel_rfl) .nil ?_
                  refine Wc.ret ?_
                  obtain rfl := Option.some.inj h163
                  obtain rfl := Option.some.inj h
                  exact ⟨.inl rfl, by kernel_rfl, by kernel_rfl⟩
                · refine Wc.condF h167 (by kernel_rfl) ?_
                  refine Wc.fix (st' := ⟨[(1, (.v (.int .i64 b165_), [])), (5, (.v (.int .i64 (wr.i64 (b166_ + b170_))), [])), (82, (.v (.sl (List.map GTerm.c f164_.gKids)), [])), (83, (.v (.int .i64 (f164_.gKids.length : Int)), [])), (84, (.v (.int .i64 b167_), []))], [], []⟩) [] [1, 5, 82, 83, 84] [] [] (by kernel_rfl) ?_
                  refine Wc.skip ?_
                  refine Wc.region [] [] [1, 5, 82, 83, 84] [] [] ⟨[(1, (.v (.int .i64 b165_), [])), (5, (.v (.int .i64 (wr.i64 (b166_ + b170_))), [])), (82, (.v (.sl (List.map GTerm.c f164_.gKids)), [])), (83, (.v (.int .i64 (f164_.gKids.length : Int)), [])), (84, (.v (.int .i64 (wr.i64 (b167_ + 1))), []))], [], []⟩ _ (by kernel_rfl) .nil ?_
                  exact ⟨_, Nat.lt_succ_self _, _, _, rfl, h163⟩
              · refine Wc.condF h164 (by kernel_rfl) ?_
                refine Wc.fix (st' := ⟨[(5, (.v (.int .i64 b166_), []))], [], []⟩) [] [5] [] [] (by kernel_rfl) ?_
                refine Wc.exit ?_
                obtain rfl := Option.some.inj h163
                exact ⟨_, rfl, rfl⟩
          · rintro st ⟨b168_, rfl, rfl⟩
            refine Wc.seq ?_
            refine Wc.region [] [] [4] [] [] ⟨[(4, (.v (.int .i64 b168_), []))], [], []⟩ _ (by kernel_rfl) .nil ?_
            refine Wc.ret ?_
            obtain rfl := Option.some.inj h
            exact ⟨.inl rfl, by kernel_rfl, by kernel_rfl⟩
theorem cimpl_sized {k : Nat} {f164_ : GTerm} {b165_ : Int} {r : Int} (h : pimpl_sized k f164_ b165_ = some r) : FnO Try.prog 129 [.v (.agg [.int .i64 f164_.gKind, .str f164_.gName, .int .i64 f164_.gNum, .sl (List.map GTerm.c f164_.gKids)]) [], .v (.int .i64 b165_) []] (.v (.int .i64 r) []) [] := (all_pimpl_sized k) h

/-- impl.TermOk -/
def pimpl_TermOk (k : Nat) (f176_ : GTerm) : Option Bool :=
  (pimpl_sized k f176_ 1).bind fun b177_ =>
  some (decide (b177_ ≤ 400))
theorem cimpl_TermOk {k : Nat} {f176_ : GTerm} {r : Bool} (h : pimpl_TermOk k f176_ = some r) : FnO Try.prog 72 [.v (.agg [.int .i64 f176_.gKind, .str f176_.gName, .int .i64 f176_.gNum, .sl (List.map GTerm.c f176_.gKids)]) []] (.v (.bool r) []) [] := by
  refine FnO.of Try.func72 (rfl : Try.f72.body = some _) (Nat.le_of_ble_eq_true (by kernel_rfl)) (Nat.le_of_ble_eq_true (by kernel_rfl)) ?_
  intro w0 X0 Fin pv0 pb
  unfold pimpl_TermOk at h
  refine Wc.seq ?_
  refine Wc.region [] [] [1] [1] [] ⟨[(1, (.ptr 1 0, []))], [(1, .cells [.int .i64 f176_.gKind, .str f176_.gName, .int .i64 f176_.gNum, .sl (List.map GTerm.c f176_.gKids)] [])], []⟩ _ (by kernel_rfl) .nil ?_
  refine Wc.seq ?_
  obtain ⟨b177_, h189, h⟩ := obind h
  refine Wc.region [{}, { r := some (.v (.int .i64 b177_) []) }] [] [2] [] [] ⟨[(2, (.v (.bool (decide (b177_ ≤ 400))), []))], [], []⟩ _ (by kernel_rfl) (.cons (cimpl_sized h189) .nil) ?_
  refine Wc.ret ?_
  obtain rfl := Option.some.inj h
  exact ⟨.inl rfl, by kernel_rfl, by kernel_rfl⟩

/-- impl.ListTerm -/
def pimpl_ListTerm (k : Nat) (m184_ : List GTerm) : Option GTerm :=
  (pimpl_atom k (bs [91, 93])).bind fun f185_ =>
  (pimpl_listOf k m184_ f185_).bind fun f186_ =>
  if (decide ((m184_.length : Int) ≤ 400)) = true then
    (pimpl_TermOk k f186_).bind fun g187_ =>
    if g187_ = true then
      some f186_
    else
      (pimpl_atom k (bs [91, 93])).bind fun f188_ =>
      some f188_
  else
    (pimpl_atom k (bs [91, 93])).bind fun f189_ =>
    some f189_
theorem cimpl_ListTerm {k : Nat} {m184_ : List GTerm} {r : GTerm} (h : pimpl_ListTerm k m184_ = some r) : FnO Try.prog 20 [.v (.sl (List.map GTerm.c m184_)) []] (.v (.agg [.int .i64 r.gKind, .str r.gName, .int .i64 r.gNum, .sl (List.map GTerm.c r.gKids)]) []) [] := by
  refine FnO.of Try.func20 (rfl : Try.f20.body = some _) (Nat.le_of_ble_eq_true (by kernel_rfl)) (Nat.le_of_ble_eq_true (by kernel_rfl)) ?_
  intro w0 X0 Fin pv0 pb
  unfold pimpl_ListTerm at h
  refine Wc.seq ?_
  refine Wc.region [] [] [0, 2] [2] [] ⟨[(0, (.v (.sl (List.map GTerm.c m184_)), [])), (2, (.ptr 2 0, []))], [(2, .cells [.int .i64 0, .str (bs []), .int .i64 0, .sl (List.map GTerm.c [])] [(3, .app 41)])], []⟩ _ (by kernel_rfl) .nil ?_
  refine Wc.seq ?_
  refine Wc.seq ?_
  obtain ⟨f185_, h197, h⟩ := obind h
  obtain ⟨f186_, h198, h⟩ := obind h
  refine Wc.region [{}, { r := some (.v (.agg [.int .i64 f185_.gKind, .str f185_.gName, .int .i64 f185_.gNum, .sl (List.map GTerm.c f185_.gKids)]) [(3, .app 41)]) }, { r := some (.v (.agg [.int .i64 f186_.gKind, .str f186_.gName, .int .i64 f186_.gNum, .sl (List.map GTerm.c f186_.gKids)]) []) }] [] [0, 2, 3] [2, 3] [] ⟨[(0, (.v (.sl (List.map GTerm.c m184_)), [])), (2, (.ptr 2 0, [])), (3, (.ptr 3 0, []))], [(2, .cells [.int .i64 0, .str (bs []), .int .i64 0, .sl (List.map GTerm.c [])] [(3, .app 41)]), (3, .cells [.int .i64 f186_.gKind, .str f186_.gName, .int .i64 f186_.gNum, .sl (List.map GTerm.c f186_.gKids)] [])], []⟩ _ (by kernel_rfl) (.cons (cimpl_atom h197) (.cons (cimpl_listOf h198) .nil)) ?_
  refine Wc.seq ?_
  rcases oif h with ⟨h199, h⟩ | ⟨h199, h⟩
  · obtain ⟨g187_, h200, h⟩ := obind h
    refine Wc.region [{}, { v := some (.int .i64 (m184_.length : Int)) }, {}, { re := some (.bool true) }, {}, { r := some (.v (.bool g187_) []) }] [] [2, 3, 13] [2, 3] [] ⟨[(2, (.ptr 2 0, [])), (3, (.ptr 3 0, [])), (13, (.v (.bool g187_), []))], [(2, .cells [.int .i64 0, .str (bs []), .int .i64 0, .sl (List.map GTerm.c [])] [(3, .app 41)]), (3, .cells [.int .i64 f186_.gKind, .str f186_.gName, .int .i64 f186_.gNum, .sl (List.map GTerm.c f186_.gKids)] [])], []⟩ _ (by kernel_rfl) (.cons (len_obl GTerm.c m184_) (.cons (congrArg AV.bool h199) (.cons (cimpl_TermOk h200) .nil))) ?_
    rcases oif h with ⟨h201, h⟩ | ⟨h201, h⟩
    · refine Wc.condT h201 (by kernel_rfl) ?_
      refine Wc.seq ?_
      refine Wc.region [] [] [2] [2] [] ⟨[(2, (.ptr 2 0, []))], [(2, .cells [.int .i64 f186_.gKind, .str f186_.gName, .int .i64 f186_.gNum, .sl (List.map GTerm.c f186_.gKids)] [])], []⟩ _ (by kernel_rfl) .nil ?_
      refine Wc.ret ?_
      obtain rfl := Option.some.inj h
      exact ⟨.inl rfl, by kernel_rfl, by kernel_rfl⟩
    · refine Wc.condF h201 (by kernel_rfl) ?_
      refine Wc.fix (st' := ⟨[(2, (.ptr 2 0, []))], [(2, .cells [.int .i64 0, .str (bs []), .int .i64 0, .sl (List.map GTerm.c [])] [(3, .app 41)])], []⟩) [] [2] [2] [] (by kernel_rfl) ?_
      refine Wc.skip ?_
      refine Wc.seq ?_
      obtain ⟨f188_, h202, h⟩ := obind h
      refine Wc.region [{ r := some (.v (.agg [.int .i64 f188_.gKind, .str f188_.gName, .int .i64 f188_.gNum, .sl (List.map GTerm.c f188_.gKids)]) [(3, .app 41)]) }, { tk := [15] }] [] [2] [2] [] ⟨[(2, (.ptr 2 0, []))], [(2, .cells [.int .i64 f188_.gKind, .str f188_.gName, .int .i64 f188_.gNum, .sl (List.map GTerm.c f188_.gKids)] [(3, .app 41)])], []⟩ _ (by kernel_rfl) (.cons (cimpl_atom h202) .nil) ?_
      refine Wc.fix (st' := ⟨[(2, (.ptr 2 0, []))], [(2, .cells [.int .i64 f188_.gKind, .str f188_.gName, .int .i64 f188_.gNum, .sl (List.map GTerm.c f188_.gKids)] [])], []⟩) [.un (.b 2 3)] [2] [2] [] (by kernel_rfl) ?_
      refine Wc.ret ?_
      obtain rfl := Option.some.inj h
      exact ⟨.inl rfl, by kernel_rfl, by kernel_rfl⟩
  · refine Wc.region [{}, { v := some (.int .i64 (m184_.length : Int)) }, {}, { re := some (.bool false) }] [] [2, 3, 13] [2, 3] [] ⟨[(2, (.ptr 2 0, [])), (3, (.ptr 3 0, [])), (13, (.v (.bool false), []))], [(2, .cells [.int .i64 0, .str (bs []), .int .i64 0, .sl (List.map GTerm.c [])] [(3, .app 41)]), (3, .cells [.int .i64 f186_.gKind, .str f186_.gName, .int .i64 f186_.gNum, .sl (List.map GTerm.c f186_.gKids)] [])], []⟩ _ (by kernel_rfl) (.cons (len_obl GTerm.c m184_) (.cons (congrArg AV.bool h199) .nil)) ?_
    refine Wc.condF rfl (by kernel_rfl) ?_
    refine Wc.fix (st' := ⟨[(2, (.ptr 2 0, []))], [(2, .cells [.int .i64 0, .str (bs []), .int .i64 0, .sl (List.map GTerm.c [])] [(3, .app 41)])], []⟩) [] [2] [2] [] (by kernel_rfl) ?_
    refine Wc.skip ?_
    refine Wc.seq ?_
    obtain ⟨f189_, h203, h⟩ := obind h
    refine Wc.region [{ r := some (.v (.agg [.int .i64 f189_.gKind, .str f189_.gName, .int .i64 f189_.gNum, .sl (List.map GTerm.c f189_.gKids)]) [(3, .app 41)]) }, { tk := [15] }] [] [2] [2] [] ⟨[(2, (.ptr 2 0, []))], [(2, .cells [.int .i64 f189_.gKind, .str f189_.gName, .int .i64 f189_.gNum, .sl (List.map GTerm.c f189_.gKids)] [(3, .app 41)])], []⟩ _ (by kernel_rfl) (.cons (cimpl_atom h203) .nil) ?_
    refine Wc.fix (st' := ⟨[(2, (.ptr 2 0, []))], [(2, .cells [.int .i64 f189_.gKind, .str f189_.gName, .int .i64 f189_.gNum, .sl (List.map GTerm.c f189_.gKids)] [])], []⟩) [.un (.b 2 3)] [2] [2] [] (by kernel_rfl) ?_
    refine Wc.ret ?_
    obtain rfl := Option.some.inj h
    exact ⟨.inl rfl, by kernel_rfl, by kernel_rfl⟩

/-- spec.SizeOf -/
def pspec_SizeOf (k : Nat) (f190_ : GTerm) : Option Int :=
  (pspec_l03Count k f190_ 401).bind fun b191_ =>
  if (decide (b191_ < 0)) = true then
    some 401
  else
    some (wr.i64 (401 - b191_))
theorem cspec_SizeOf {k : Nat} {f190_ : GTerm} {r : Int} (h : pspec_SizeOf k f190_ = some r) : FnO Try.prog 21 [.v (.agg [.int .i64 f190_.gKind, .str f190_.gName, .int .i64 f190_.gNum, .sl (List.map GTerm.c f190_.gKids)]) []] (.v (.int .i64 r) []) [] := by
  refine FnO.of Try.func21 (rfl : Try.f21.body = some _) (Nat.le_of_ble_eq_true (by kernel_rfl)) (Nat.le_of_ble_eq_true (by kernel_rfl)) ?_
  intro w0 X0 Fin pv0 pb
  unfold pspec_SizeOf at h
  refine Wc.seq ?_
  refine Wc.region [] [] [1] [1] [] ⟨[(1, (.ptr 1 0, []))], [(1, .cells [.int .i64 f190_.gKind, .str f190_.gName, .int .i64 f190_.gNum, .sl (List.map GTerm.c f190_.gKids)] [])], []⟩ _ (by kernel_rfl) .nil ?_
  refine Wc.seq ?_
  obtain ⟨b191_, h204, h⟩ := obind h
  refine Wc.region [{}, { r := some (.v (.int .i64 b191_) []) }] [] [3] [] [] ⟨[(3, (.v (.int .i64 b191_), []))], [], []⟩ _ (by kernel_rfl) (.cons (cspec_l03Count h204) .nil) ?_
  refine Wc.seq ?_
  refine Wc.seq ?_
  refine Wc.region [] [] [3, 7] [] [] ⟨[(3, (.v (.int .i64 b191_), [])), (7, (.v (.bool (decide (b191_ < 0))), []))], [], []⟩ _ (by kernel_rfl) .nil ?_
  rcases oif h with ⟨h205, h⟩ | ⟨h205, h⟩
  · refine Wc.condT h205 (by kernel_rfl) ?_
    refine Wc.seq ?_
    refine Wc.region [] [] [2] [] [] ⟨[(2, (.v (.int .i64 401), []))], [], []⟩ _ (by kernel_rfl) .nil ?_
    refine Wc.ret ?_
    obtain rfl := Option.some.inj h
    exact ⟨.inl rfl, by kernel_rfl, by kernel_rfl⟩
  · refine Wc.condF h205 (by kernel_rfl) ?_
    refine Wc.fix (st' := ⟨[(3, (.v (.int .i64 b191_), []))], [], []⟩) [] [3] [] [] (by kernel_rfl) ?_
    refine Wc.skip ?_
    refine Wc.seq ?_
    refine Wc.region [] [] [2] [] [] ⟨[(2, (.v (.int .i64 (wr.i64 (401 - b191_))), []))], [], []⟩ _ (by kernel_rfl) .nil ?_
    refine Wc.ret ?_
    obtain rfl := Option.some.inj h
    exact ⟨.inl rfl, by kernel_rfl, by kernel_rfl⟩

/-- impl.isStruct -/
def pimpl_isStruct (k : Nat) (f192_ : GTerm) (e193_ : ByteArray) (b194_ : Int) : Option Bool :=
  if (f192_.gKind == 4) = true then
    if (sEq f192_.gName e193_) = true then
      some ((f192_.gKids.length : Int) == b194_)
    else
      some false
  else
    some false
theorem cimpl_isStruct {k : Nat} {f192_ : GTerm} {e193_ : ByteArray} {b194_ : Int} {r : Bool} (h : pimpl_isStruct k f192_ e193_ b194_ = some r) : FnO Try.prog 130 [.v (.agg [.int .i64 f192_.gKind, .str f192_.gName, .int .i64 f192_.gNum, .sl (List.map GTerm.c f192_.gKids)]) [], .v (.str e193_) [], .v (.int .i64 b194_) []] (.v (.bool r) []) [] := by
  refine FnO.of Try.func130 (rfl : Try.f130.body = some _) (Nat.le_of_ble_eq_true (by kernel_rfl)) (Nat.le_of_ble_eq_true (by kernel_rfl)) ?_
  intro w0 X0 Fin pv0 pb
  unfold pimpl_isStruct at h
  refine Wc.seq ?_
  refine Wc.region [] [] [1, 2, 3] [3] [] ⟨[(1, (.v (.str e193_), [])), (2, (.v (.int .i64 b194_), [])), (3, (.ptr 3 0, []))], [(3, .cells [.int .i64 f192_.gKind, .str f192_.gName, .int .i64 f192_.gNum, .sl (List.map GTerm.c f192_.gKids)] [])], []⟩ _ (by kernel_rfl) .nil ?_
  refine Wc.seq ?_
  rcases oif h with ⟨h206, h⟩ | ⟨h206, h⟩
  · rcases oif h with ⟨h207, h⟩ | ⟨h207, h⟩
    · refine Wc.region [{}, {}, {}, { re := some (.bool true) }, {}, {}, {}, {}, {}, { re := some (.bool true) }, {}, {}, { v := some (.int .i64 (f192_.gKids.length : Int)) }] [] [6] [] [] ⟨[(6, (.v (.bool ((f192_.gKids.length : Int) == b194_)), []))], [], []⟩ _ (by kernel_rfl) (.cons (congrArg AV.bool h206) (.cons (congrArg AV.bool h207) (.cons (len_obl GTerm.c f192_.gKids) .nil))) ?_
      refine Wc.ret ?_
      obtain rfl := Option.some.inj h
      exact ⟨.inl rfl, by kernel_rfl, by kernel_rfl⟩
    · refine Wc.region [{}, {}, {}, { re := some (.bool true) }, {}, {}, {}, {}, {}, { re := some (.bool false) }] [] [6] [] [] ⟨[(6, (.v (.bool false), []))], [], []⟩ _ (by kernel_rfl) (.cons (congrArg AV.bool h206) (.cons (congrArg AV.bool h207) .nil)) ?_
      refine Wc.ret ?_
      obtain rfl := Option.some.inj h
      exact ⟨.inl rfl, by kernel_rfl, by kernel_rfl⟩
  · refine Wc.region [{}, {}, {}, { re := some (.bool false) }] [] [6] [] [] ⟨[(6, (.v (.bool false), []))], [], []⟩ _ (by kernel_rfl) (.cons (congrArg AV.bool h206) .nil) ?_
    refine Wc.ret ?_
    obtain rfl := Option.some.inj h
    exact ⟨.inl rfl, by kernel_rfl, by kernel_rfl⟩

/-- impl.isPair -/
def pimpl_isPair (k : Nat) (f195_ : GTerm) : Option Bool :=
  (pimpl_isStruct k f195_ (bs [46]) 2).bind fun g196_ =>
  some g196_
theorem cimpl_isPair {k : Nat} {f195_ : GTerm} {r : Bool} (h : pimpl_isPair k f195_ = some r) : FnO Try.prog 74 [.v (.agg [.int .i64 f195_.gKind, .str f195_.gName, .int .i64 f195_.gNum, .sl (List.map GTerm.c f195_.gKids)]) []] (.v (.bool r) []) [] := by
  refine FnO.of Try.func74 (rfl : Try.f74.body = some _) (Nat.le_of_ble_eq_true (by kernel_rfl)) (Nat.le_of_ble_eq_true (by kernel_rfl)) ?_
  intro w0 X0 Fin pv0 pb
  unfold pimpl_isPair at h
  refine Wc.seq ?_
  refine Wc.region [] [] [1] [1] [] ⟨[(1, (.ptr 1 0, []))], [(1, .cells [.int .i64 f195_.gKind, .str f195_.gName, .int .i64 f195_.gNum, .sl (List.map GTerm.c f195_.gKids)] [])], []⟩ _ (by kernel_rfl) .nil ?_
  refine Wc.seq ?_
  obtain ⟨g196_, h208, h⟩ := obind h
  refine Wc.region [{}, { r := some (.v (.bool g196_) []) }] [] [2] [] [] ⟨[(2, (.v (.bool g196_), []))], [], []⟩ _ (by kernel_rfl) (.cons (cimpl_isStruct h208) .nil) ?_
  refine Wc.ret ?_
  obtain rfl := Option.some.inj h
  exact ⟨.inl rfl, by kernel_rfl, by kernel_rfl⟩

/-- impl.isAtom -/
def pimpl_isAtom (k : Nat) (f197_ : GTerm) (e198_ : ByteArray) : Option Bool :=
  if (f197_.gKind == 2) = true then
    some (sEq f197_.gName e198_)
  else
    some false
theorem cimpl_isAtom {k : Nat} {f197_ : GTerm} {e198_ : ByteArray} {r : Bool} (h : pimpl_isAtom k f197_ e198_ = some r) : FnO Try.prog 76 [.v (.agg [.int .i64 f197_.gKind, .str f197_.gName, .int .i64 f197_.gNum, .sl (List.map GTerm.c f197_.gKids)]) [], .v (.str e198_) []] (.v (.bool r) []) [] := by
  refine FnO.of Try.func76 (rfl : Try.f76.body = some _) (Nat.le_of_ble_eq_true (by kernel_rfl)) (Nat.le_of_ble_eq_true (by kernel_rfl)) ?_
  intro w0 X0 Fin pv0 pb
  unfold pimpl_isAtom at h
  refine Wc.seq ?_
  refine Wc.region [] [] [1, 2] [2] [] ⟨[(1, (.v (.str e198_), [])), (2, (.ptr 2 0, []))], [(2, .cells [.int .i64 f197_.gKind, .str f197_.gName, .int .i64 f197_.gNum, .sl (List.map GTerm.c f197_.gKids)] [])], []⟩ _ (by kernel_rfl) .nil ?_
  refine Wc.seq ?_
  rcases oif h with ⟨h209, h⟩ | ⟨h209, h⟩
  · refine Wc.region [{}, {}, {}, { re := some (.bool true) }] [] [4] [] [] ⟨[(4, (.v (.bool (sEq f197_.gName e198_)), []))], [], []⟩ _ (by kernel_rfl) (.cons (congrArg AV.bool h209) .nil) ?_
    refine Wc.ret ?_
    obtain rfl := Option.some.inj h
    exact ⟨.inl rfl, by kernel_rfl, by kernel_rfl⟩
  · refine Wc.region [{}, {}, {}, { re := some (.bool false) }] [] [4] [] [] ⟨[(4, (.v (.bool false), []))], [], []⟩ _ (by kernel_rfl) (.cons (congrArg AV.bool h209) .nil) ?_
    refine Wc.ret ?_
    obtain rfl := Option.some.inj h
    exact ⟨.inl rfl, by kernel_rfl, by kernel_rfl⟩

def pimpl_ItemsOf_L1 (k : Nat) : Nat → (List GTerm) → GTerm → Option (Out ((List GTerm) × Bool) ((List GTerm) × GTerm))
  | 0, _, _ => none
  | m + 1, m212_, f213_ =>
    (pimpl_isPair k f213_).bind fun g216_ =>
    if g216_ = true then
      (at' f213_.gKids 0).bind fun f217_ =>
      (pimpl_copyTerm k f217_).bind fun f218_ =>
      if m212_.length + [f218_].length ≤ 1073741824 then
        (at' f213_.gKids 1).bind fun f219_ =>
        pimpl_ItemsOf_L1 k m (m212_ ++ [f218_]) f219_
      else none
    else
      some (.done (m212_, f213_))
/-- impl.ItemsOf -/
def pimpl_ItemsOf (k : Nat) (f210_ : GTerm) : Option ((List GTerm) × Bool) :=
  (pimpl_TermOk k f210_).bind fun g211_ =>
  if (!g211_) = true then
    some ([], false)
  else
    (pimpl_ItemsOf_L1 k k [] f210_).bind fun out1 => match out1 with
    | .ret r => some r
    | .done (m214_, f215_) =>
      (pimpl_isAtom k f215_ (bs [91, 93])).bind fun g220_ =>
      if (!g220_) = true then
        some ([], false)
      else
        some (m214_, true)
theorem cimpl_ItemsOf {k : Nat} {f210_ : GTerm} {r : (List GTerm) × Bool} (h : pimpl_ItemsOf k f210_ = some r) : FnO Try.prog 22 [.v (.agg [.int .i64 f210_.gKind, .str f210_.gName, .int .i64 f210_.gNum, .sl (List.map GTerm.c f210_.gKids)]) []] (.v (.tup [.sl (List.map GTerm.c r.1), .bool r.2]) [(0, .app 41)]) [] := by
  refine FnO.of Try.func22 (rfl : Try.f22.body = some _) (Nat.le_of_ble_eq_true (by kernel_rfl)) (Nat.le_of_ble_eq_true (by kernel_rfl)) ?_
  intro w0 X0 Fin pv0 pb
  unfold pimpl_ItemsOf at h
  refine Wc.seq ?_
  refine Wc.region [] [] [1] [1] [] ⟨[(1, (.ptr 1 0, []))], [(1, .cells [.int .i64 f210_.gKind, .str f210_.gName, .int .i64 f210_.gNum, .sl (List.map GTerm.c f210_.gKids)] [])], []⟩ _ (by kernel_rfl) .nil ?_
  refine Wc.seq ?_
  refine Wc.seq ?_
  obtain ⟨g211_, h221, h⟩ := obind h
  refine Wc.region [{}, { r := some (.v (.bool g211_) []) }] [] [1, 7] [1] [] ⟨[(1, (.ptr 1 0, [])), (7, (.v (.bool (!g211_)), []))], [(1, .cells [.int .i64 f210_.gKind, .str f210_.gName, .int .i64 f210_.gNum, .sl (List.map GTerm.c f210_.gKids)] [])], []⟩ _ (by kernel_rfl) (.cons (cimpl_TermOk h221) .nil) ?_
  rcases oif h with ⟨h222, h⟩ | ⟨h222, h⟩
  · refine Wc.condT h222 (by kernel_rfl) ?_
    refine Wc.seq ?_
    refine Wc.region [] [] [2, 3] [] [] ⟨[(2, (.v (.sl (List.map GTerm.c [])), [(0, .app 41)])), (3, (.v (.bool false), []))], [], []⟩ _ (by kernel_rfl) .nil ?_
    refine Wc.ret ?_
    obtain rfl := Option.some.inj h
    exact ⟨.inl rfl, by kernel_rfl, by kernel_rfl⟩
  · refine Wc.condF h222 (by kernel_rfl) ?_
    refine Wc.fix (st' := ⟨[(1, (.ptr 1 0, []))], [(1, .cells [.int .i64 f210_.gKind, .str f210_.gName, .int .i64 f210_.gNum, .sl (List.map GTerm.c f210_.gKids)] [])], []⟩) [] [1] [1] [] (by kernel_rfl) ?_
    refine Wc.skip ?_
    refine Wc.seq ?_
    refine Wc.region [] [] [1, 4] [1] [] ⟨[(1, (.ptr 1 0, [])), (4, (.v (.sl (List.map GTerm.c [])), [(0, .app 41)]))], [(1, .cells [.int .i64 f210_.gKind, .str f210_.gName, .int .i64 f210_.gNum, .sl (List.map GTerm.c f210_.gKids)] [])], []⟩ _ (by kernel_rfl) .nil ?_
    obtain ⟨out1, h223, h⟩ := obind h
    refine Wc.seqJ (fun st => ∃ (m214_ : List GTerm) (f215_ : GTerm), out1 = .done (m214_, f215_) ∧ st = ⟨[(1, (.ptr 1 0, [])), (4, (.v (.sl (List.map GTerm.c m214_)), [(0, .app 41)]))], [(1, .cells [.int .i64 f215_.gKind, .str f215_.gName, .int .i64 f215_.gNum, .sl (List.map GTerm.c f215_.gKids)] [])], []⟩) ?_ ?_
    · refine Wc.block ?_
      refine Wc.loop (fun m st => ∃ (m212_ : List GTerm) (f213_ : GTerm), st = ⟨[(1, (.ptr 1 0, [])), (4, (.v (.sl (List.map GTerm.c m212_)), [(0, .app 41)]))], [(1, .cells [.int .i64 f213_.gKind, .str f213_.gName, .int .i64 f213_.gNum, .sl (List.map GTerm.c f213_.gKids)] [])], []⟩ ∧ pimpl_ItemsOf_L1 k m m212_ f213_ = some out1) ?_ k ⟨_, _, rfl, h223⟩
      rintro m st ⟨m212_, f213_, rfl, h223⟩
      cases m with
      | zero => exact (onone h223).elim
      | succ m =>
        refine Wc.seq ?_
        refine Wc.seq ?_
        obtain ⟨g216_, h224, h223⟩ := obind h223
        refine Wc.region [{}, { r := some (.v (.bool g216_) []) }] [] [1, 4, 9] [1] [] ⟨[(1, (.ptr 1 0, [])), (4, (.v (.sl (List.map GTerm.c m212_)), [(0, .app 41)])), (9, (.v (.bool g216_), []))], [(1, .cells [.int .i64 f213_.gKind, .str f213_.gName, .int .i64 f213_.gNum, .sl (List.map GTerm.c f213_.gKids)] [])], []⟩ _ (by kernel_rfl) (.cons (cimpl_isPair h224) .nil) ?_
        rcases oif h223 with ⟨h225, h223⟩ | ⟨h225, h223⟩
        · refine Wc.condT h225 (by kernel_rfl) ?_
          refine Wc.fix (st' := ⟨[(1, (.ptr 1 0, [])), (4, (.v (.sl (List.map GTerm.c m212_)), [(0, .app 41)]))], [(1, .cells [.int .i64 f213_.gKind, .str f213_.gName, .int .i64 f213_.gNum, .sl (List.map GTerm.c f213_.gKids)] [])], []⟩) [] [1, 4] [1] [] (by kernel_rfl) ?_
          refine Wc.skip ?_
          refine Wc.seq ?_
          refine Wc.block ?_
          obtain ⟨f217_, h226, h223⟩ := obind h223
          obtain ⟨f218_, h227, h223⟩ := obind h223
          obtain ⟨h228, h223⟩ := oguard h223
          refine Wc.region [{ tk := [4] }, {}, {}, { v := some (.vptr [.int .i64 f217_.gKind, .str f217_.gName, .int .i64 f217_.gNum, .sl (List.map GTerm.c f217_.gKids)]) }, {}, { r := some (.v (.agg [.int .i64 f218_.gKind, .str f218_.gName, .int .i64 f218_.gNum, .sl (List.map GTerm.c f218_.gKids)]) [(3, .app 41)]) }, { c := some (List.map GTerm.c [f218_]) }, { c := some (List.map GTerm.c (m212_ ++ [f218_])), tk := [14] }, { tk := [21] }] [] [1, 4] [1] [] ⟨[(1, (.ptr 1 0, [])), (4, (.v (.sl (List.map GTerm.c (m212_ ++ [f218_]))), [(0, .app 41)]))], [(1, .cells [.int .i64 f213_.gKind, .str f213_.gName, .int .i64 f213_.gNum, .sl (List.map GTerm.c f213_.gKids)] [])], []⟩ _ (by kernel_rfl) (.cons (at_obl (c := GTerm.c) (GTerm.c_eq f217_) GTerm.c_len h226) (.cons (len_ok 4 [.int .i64 f217_.gKind, .str f217_.gName, .int .i64 f217_.gNum, .sl (List.map GTerm.c f217_.gKids)]) (.cons (cimpl_copyTerm h227) (.cons (cl_cons (c := GTerm.c) (x := f218_) (GTerm.c_eq f218_) (cl_nil GTerm.c)) (.cons (app_re2 GTerm.c m212_ [f218_]) (.cons (app_leaf (c := GTerm.c) (ys := [f218_]) GTerm.c_leaf) (.cons (app_obl2 (c := GTerm.c) (xs := m212_) (ys := [f218_]) GTerm.c_len h228) .nil))))))) ?_
          obtain ⟨f219_, h229, h223⟩ := obind h223
          refine Wc.region [{}, {}, { v := some (.vptr [.int .i64 f219_.gKind, .str f219_.gName, .int .i64 f219_.gNum, .sl (List.map GTerm.c f219_.gKids)]) }] [] [1, 4] [1] [] ⟨[(1, (.ptr 1 0, [])), (4, (.v (.sl (List.map GTerm.c (m212_ ++ [f218_]))), [(0, .app 41)]))], [(1, .cells [.int .i64 f219_.gKind, .str f219_.gName, .int .i64 f219_.gNum, .sl (List.map GTerm.c f219_.gKids)] [])], []⟩ _ (by kernel_rfl) (.cons (at_obl (c := GTerm.c) (GTerm.c_eq f219_) GTerm.c_len h229) (.cons (len_ok 4 [.int .i64 f219_.gKind, .str f219_.gName, .int .i64 f219_.gNum, .sl (List.map GTerm.c f219_.gKids)]) .nil)) ?_
          exact ⟨_, Nat.lt_succ_self _, _, _, rfl, h223⟩
        · refine Wc.condF h225 (by kernel_rfl) ?_
          refine Wc.fix (st' := ⟨[(1, (.ptr 1 0, [])), (4, (.v (.sl (List.map GTerm.c m212_)), [(0, .app 41)]))], [(1, .cells [.int .i64 f213_.gKind, .str f213_.gName, .int .i64 f213_.gNum, .sl (List.map GTerm.c f213_.gKids)] [])], []⟩) [] [1, 4] [1] [] (by kernel_rfl) ?_
          refine Wc.exit ?_
          obtain rfl := Option.some.inj h223
          exact ⟨_, _, rfl, rfl⟩
    · rintro st ⟨m214_, f215_, rfl, rfl⟩
      refine Wc.seq ?_
      refine Wc.seq ?_
      obtain ⟨g220_, h230, h⟩ := obind h
      refine Wc.region [{}, { r := some (.v (.bool g220_) []) }] [] [4, 24] [] [] ⟨[(4, (.v (.sl (List.map GTerm.c m214_)), [(0, .app 41)])), (24, (.v (.bool (!g220_)), []))], [], []⟩ _ (by kernel_rfl) (.cons (cimpl_isAtom h230) .nil) ?_
      rcases oif h with ⟨h231, h⟩ | ⟨h231, h⟩
      · refine Wc.condT h231 (by kernel_rfl) ?_
        refine Wc.seq ?_
        refine Wc.region [] [] [2, 3] [] [] ⟨[(2, (.v (.sl (List.map GTerm.c [])), [(0, .app 41)])), (3, (.v (.bool false), []))], [], []⟩ _ (by kernel_rfl) .nil ?_
        refine Wc.ret ?_
        obtain rfl := Option.some.inj h
        exact ⟨.inl rfl, by kernel_rfl, by kernel_rfl⟩
      · refine Wc.condF h231 (by kernel_rfl) ?_
        refine Wc.fix (st' := ⟨[(4, (.v (.sl (List.map GTerm.c m214_)), [(0, .app 41)]))], [], []⟩) [] [4] [] [] (by kernel_rfl) ?_
        refine Wc.skip ?_
        refine Wc.seq ?_
        refine Wc.region [{ tk := [4] }, { tk := [25] }] [] [2, 3] [] [] ⟨[(2, (.v (.sl (List.map GTerm.c m214_)), [(0, .app 41)])), (3, (.v (.bool true), []))], [], []⟩ _ (by kernel_rfl) .nil ?_
        refine Wc.ret ?_
        obtain rfl := Option.some.inj h
        exact ⟨.inl rfl, by kernel_rfl, by kernel_rfl⟩

def pslices_Reverse___impl_Term_impl_Term__L1 (k : Nat) : Nat → Int → Int → (List GTerm) → Option (Out (List GTerm) (List GTerm))
  | 0, _, _, _ => none
  | m + 1, b222_, b223_, m224_ =>
    if (decide (b222_ < b223_)) = true then
      (at' m224_ b223_).bind fun f226_ =>
      (at' m224_ b222_).bind fun f227_ =>
      (at' m224_ b222_).bind fun f228_ =>
      (at' (m224_.set ((b222_).toNat) f226_) b223_).bind fun f229_ =>
      pslices_Reverse___impl_Term_impl_Term__L1 k m (wr.i64 (b222_ + 1)) (wr.i64 (b223_ - 1)) ((m224_.set ((b222_).toNat) f226_).set ((b223_).toNat) f227_)
    else
      some (.done m224_)
/-- slices.Reverse[[]impl.Term,impl.Term] -/
def pslices_Reverse___impl_Term_impl_Term_ (k : Nat) (m221_ : List GTerm) : Option (List GTerm) :=
  (pslices_Reverse___impl_Term_impl_Term__L1 k k 0 (wr.i64 ((m221_.length : Int) - 1)) m221_).bind fun out1 => match out1 with
  | .ret r => some r
  | .done m225_ =>
    some m225_
theorem cslices_Reverse___impl_Term_impl_Term_ {k : Nat} {m221_ : List GTerm} {r : (List GTerm)} (h : pslices_Reverse___impl_Term_impl_Term_ k m221_ = some r) : FnO Try.prog 77 [.io (.slx) [(0, .ex 1000000007 false (List.map GTerm.c m221_))]] (.v (.tup []) []) [(0, .v .undef [(0, .ex 1000000007 false (List.map GTerm.c r))])] := by
  refine FnO.of Try.func77 (rfl : Try.f77.body = some _) (Nat.le_of_ble_eq_true (by kernel_rfl)) (Nat.le_of_ble_eq_true (by kernel_rfl)) ?_
  intro w0 X0 Fin pv0 pb
  unfold pslices_Reverse___impl_Term_impl_Term_ at h
  refine Wc.seq ?_
  refine Wc.region [{}, { v := some (.int .i64 (m221_.length : Int)) }] [] [0, 2, 3] [] [0] ⟨[(0, (.v (.slx), [(0, .al (.a 0 0) [])])), (2, (.v (.int .i64 0), [])), (3, (.v (.int .i64 (wr.i64 ((m221_.length : Int) - 1))), []))], [], [(0, [(0, .ex 1000000007 false (List.map GTerm.c m221_))])]⟩ _ (by kernel_rfl) (.cons (len_obl GTerm.c m221_) .nil) ?_
  obtain ⟨out1, h232, h⟩ := obind h
  refine Wc.lastJ (fun st => ∃ (m225_ : List GTerm), out1 = .done m225_ ∧ st = ⟨[], [], [(0, [(0, .ex 1000000007 false (List.map GTerm.c m225_))])]⟩) ?_ ?_
  · refine Wc.block ?_
    refine Wc.loop (fun m st => ∃ (b222_ : Int) (b223_ : Int) (m224_ : List GTerm), st = ⟨[(0, (.v (.slx), [(0, .al (.a 0 0) [])])), (2, (.v (.int .i64 b222_), [])), (3, (.v (.int .i64 b223_), []))], [], [(0, [(0, .ex 1000000007 false (List.map GTerm.c m224_))])]⟩ ∧ pslices_Reverse___impl_Term_impl_Term__L1 k m b222_ b223_ m224_ = some out1) ?_ k ⟨_, _, _, rfl, h232⟩
    rintro m st ⟨b222_, b223_, m224_, rfl, h232⟩
    cases m with
    | zero => exact (onone h232).elim
    | succ m =>
      refine Wc.seq ?_
      refine Wc.seq ?_
      refine Wc.region [] [] [0, 2, 3, 9] [] [0] ⟨[(0, (.v (.slx), [(0, .al (.a 0 0) [])])), (2, (.v (.int .i64 b222_), [])), (3, (.v (.int .i64 b223_), [])), (9, (.v (.bool (decide (b222_ < b223_))), []))], [], [(0, [(0, .ex 1000000007 false (List.map GTerm.c m224_))])]⟩ _ (by kernel_rfl) .nil ?_
      rcases oif h232 with ⟨h233, h232⟩ | ⟨h233, h232⟩
      · refine Wc.condT h233 (by kernel_rfl) ?_
        refine Wc.fix (st' := ⟨[(0, (.v (.slx), [(0, .al (.a 0 0) [])])), (2, (.v (.int .i64 b222_), [])), (3, (.v (.int .i64 b223_), []))], [], [(0, [(0, .ex 1000000007 false (List.map GTerm.c m224_))])]⟩) [] [0, 2, 3] [] [0] (by kernel_rfl) ?_
        refine Wc.skip ?_
        refine Wc.seq ?_
        refine Wc.block ?_
        obtain ⟨f226_, h234, h232⟩ := obind h232
        obtain ⟨f227_, h235, h232⟩ := obind h232
        obtain ⟨f228_, h236, h232⟩ := obind h232
        obtain ⟨f229_, h237, h232⟩ := obind h232
        refine Wc.draw hmix [{}, {}, {}, {}, {}, {}, {}, { v := some (.agg [.int .i64 f226_.gKind, .str f226_.gName, .int .i64 f226_.gNum, .sl (List.map GTerm.c f226_.gKids)]) }, {}, {}, {}, { v := some (.agg [.int .i64 f227_.gKind, .str f227_.gName, .int .i64 f227_.gNum, .sl (List.map GTerm.c f227_.gKids)]) }, {}, { c := some (List.map GTerm.c (m224_.set ((b222_).toNat) f226_)) }, {}, { c := some (List.map GTerm.c ((m224_.set ((b222_).toNat) f226_).set ((b223_).toNat) f227_)) }] [] [0, 2, 3] [] [0] ⟨[(0, (.v (.slx), [(0, .al (.a 0 0) [])])), (2, (.v (.int .i64 b222_), [])), (3, (.v (.int .i64 b223_), []))], [], [(0, [(0, .ex 1000000007 false (List.map GTerm.c ((m224_.set ((b222_).toNat) f226_).set ((b223_).toNat) f227_)))])]⟩ _ (by kernel_rfl) (fun X => by kernel_rfl) (.cons (ix_obl (c := GTerm.c) GTerm.c_len h234) (.cons (el_obl (sz := 4) (off := 0) (s := 4) (ag := true) (v := .agg [.int .i64 f226_.gKind, .str f226_.gName, .int .i64 f226_.gNum, .sl (List.map GTerm.c f226_.gKids)]) (c := GTerm.c) (GTerm.c_eq f226_) (at'_spec h234).2 rfl (Nat.le_of_ble_eq_true rfl) rfl) (.cons (ix_obl (c := GTerm.c) GTerm.c_len h235) (.cons (el_obl (sz := 4) (off := 0) (s := 4) (ag := true) (v := .agg [.int .i64 f227_.gKind, .str f227_.gName, .int .i64 f227_.gNum, .sl (List.map GTerm.c f227_.gKids)]) (c := GTerm.c) (GTerm.c_eq f227_) (at'_spec h235).2 rfl (Nat.le_of_ble_eq_true rfl) rfl) (.cons (ix_obl (c := GTerm.c) GTerm.c_len h236) (.cons (mod_obl (off := 0) (new := [.int .i64 f226_.gKind, .str f226_.gName, .int .i64 f226_.gNum, .sl (List.map GTerm.c f226_.gKids)]) (c := GTerm.c) (GTerm.c_eq f228_) (GTerm.c_eq f226_) (at'_spec h236).2 rfl) (.cons (st_obl (sz := 4) (off := 0) (s := 4) (c := GTerm.c) (GTerm.c_eq f228_) (at'_spec h236).2 rfl (Nat.le_of_ble_eq_true rfl)) (.cons (ix_obl (c := GTerm.c) GTerm.c_len h237) (.cons (mod_obl (off := 0) (new := [.int .i64 f227_.gKind, .str f227_.gName, .int .i64 f227_.gNum, .sl (List.map GTerm.c f227_.gKids)]) (c := GTerm.c) (GTerm.c_eq f229_) (GTerm.c_eq f227_) (at'_spec h237).2 rfl) (.cons (st_obl (sz := 4) (off := 0) (s := 4) (c := GTerm.c) (GTerm.c_eq f229_) (at'_spec h237).2 rfl (Nat.le_of_ble_eq_true rfl)) .nil)))))))))) ?_
        refine Wc.region [] [] [0, 2, 3] [] [0] ⟨[(0, (.v (.slx), [(0, .al (.a 0 0) [])])), (2, (.v (.int .i64 (wr.i64 (b222_ + 1))), [])), (3, (.v (.int .i64 (wr.i64 (b223_ - 1))), []))], [], [(0, [(0, .ex 1000000007 false (List.map GTerm.c ((m224_.set ((b222_).toNat) f226_).set ((b223_).toNat) f227_)))])]⟩ _ (by kernel_rfl) .nil ?_
        exact ⟨_, Nat.lt_succ_self _, _, _, _, rfl, h232⟩
      · refine Wc.condF h233 (by kernel_rfl) ?_
        refine Wc.fix (st' := ⟨[], [], [(0, [(0, .ex 1000000007 false (List.map GTerm.c m224_))])]⟩) [] [] [] [0] (by kernel_rfl) ?_
        refine Wc.exit ?_
        obtain rfl := Option.some.inj h232
        exact ⟨_, rfl, rfl⟩
  · rintro st ⟨m225_, rfl, rfl⟩
    obtain rfl := Option.some.inj h
    exact ⟨(by first | exact .inl rfl | exact .inr rfl), by kernel_rfl, by kernel_rfl⟩

def pimpl_renamed_on1_pimpl_copyTerm_1_d_L2 (k : Nat) (rimpl_renamed_on1_pimpl_copyTerm_1_d : GTerm → Option GTerm) (f239_ : GTerm) : Nat → Int → GTerm → Option (Out GTerm GTerm)
  | 0, _, _ => none
  | m + 1, b241_, f242_ =>
    if (decide (b241_ < (f239_.gKids.length : Int))) = true then
      (at' f239_.gKids b241_).bind fun f244_ =>
      (rimpl_renamed_on1_pimpl_copyTerm_1_d f244_).bind fun f245_ =>
      if f242_.gKids.length + [f245_].length ≤ 1073741824 then
        pimpl_renamed_on1_pimpl_copyTerm_1_d_L2 k rimpl_renamed_on1_pimpl_copyTerm_1_d f239_ m (wr.i64 (b241_ + 1)) (GTerm.mk f242_.gKind f242_.gName f242_.gNum (f242_.gKids ++ [f245_]))
      else none
    else
      some (.done f242_)
def pimpl_renamed_on1_pimpl_copyTerm_1_d_J1 (k : Nat) (rimpl_renamed_on1_pimpl_copyTerm_1_d : GTerm → Option GTerm) (f239_ : GTerm) (f240_ : GTerm) : Option GTerm :=
  (pimpl_renamed_on1_pimpl_copyTerm_1_d_L2 k rimpl_renamed_on1_pimpl_copyTerm_1_d f239_ k 0 f240_).bind fun out2 => match out2 with
  | .ret r => some r
  | .done f243_ =>
    some f243_
mutual
/-- impl.renamed -/
def pimpl_renamed_on1_pimpl_copyTerm_1_d : Nat → GTerm → Option GTerm
  | 0, _ => none
  | k + 1, f239_ =>
    if (f239_.gKind == 1) = true then
      (pimpl_copyTerm_1 k f239_.gNum).bind fun b246_ =>
      pimpl_renamed_on1_pimpl_copyTerm_1_d_J1 k (pimpl_renamed_on1_pimpl_copyTerm_1_d k) f239_ (GTerm.mk f239_.gKind f239_.gName b246_ [])
    else
      pimpl_renamed_on1_pimpl_copyTerm_1_d_J1 k (pimpl_renamed_on1_pimpl_copyTerm_1_d k) f239_ (GTerm.mk f239_.gKind f239_.gName f239_.gNum [])
end
set_option maxHeartbeats 4000000 in
theorem all_pimpl_renamed_on1_pimpl_copyTerm_1_d : ∀ k : Nat, (∀ {f239_ : GTerm} {r : GTerm}, pimpl_renamed_on1_pimpl_copyTerm_1_d k f239_ = some r → FnO Try.prog 131 [.v (.agg [.int .i64 f239_.gKind, .str f239_.gName, .int .i64 f239_.gNum, .sl (List.map GTerm.c f239_.gKids)]) [], .v (.func 132 []) []] (.v (.agg [.int .i64 r.gKind, .str r.gName, .int .i64 r.gNum, .slx]) [(3, .ex 41 true (List.map GTerm.c r.gKids))]) []) := by
  intro k
  induction k with
  | zero =>
    · intro f239_ r h
      exact (onone (by rw [pimpl_renamed_on1_pimpl_copyTerm_1_d] at h; exact h)).elim
  | succ k ih =>
    have ih_pimpl_renamed_on1_pimpl_copyTerm_1_d := @ih
    · intro f239_ r h
      rw [pimpl_renamed_on1_pimpl_copyTerm_1_d] at h
      refine FnO.of Try.func131 (rfl : Try.f131.body = some _) (Nat.le_of_ble_eq_true (by kernel_rfl)) (Nat.le_of_ble_eq_true (by kernel_rfl)) ?_
      intro w0 X0 Fin pv0 pb
      refine Wc.seq ?_
      refine Wc.region [] [] [1, 2, 4] [2, 4] [] ⟨[(1, (.v (.func 132 []), [])), (2, (.ptr 2 0, [])), (4, (.ptr 4 0, []))], [(2, .cells [.int .i64 f239_.gKind, .str f239_.gName, .int .i64 f239_.gNum, .sl (List.map GTerm.c f239_.gKids)] []), (4, .cells [.int .i64 0, .str (bs []), .int .i64 0, .sl (List.map GTerm.c [])] [(3, .app 41)])], []⟩ _ (by kernel_rfl) .nil ?_
      refine Wc.seq ?_
      refine Wc.region [] [] [1, 2, 4, 5] [2, 4, 5] [] ⟨[(1, (.v (.func 132 []), [])), (2, (.ptr 2 0, [])), (4, (.ptr 4 0, [])), (5, (.ptr 5 0, []))], [(2, .cells [.int .i64 f239_.gKind, .str f239_.gName, .int .i64 f239_.gNum, .sl (List.map GTerm.c f239_.gKids)] []), (4, .cells [.int .i64 0, .str (bs []), .int .i64 0, .sl (List.map GTerm.c [])] [(3, .app 41)]), (5, .cells [.int .i64 f239_.gKind, .str f239_.gName, .int .i64 f239_.gNum, .sl (List.map GTerm.c f239_.gKids)] [])], []⟩ _ (by kernel_rfl) .nil ?_
      refine Wc.seq ?_
      refine Wc.region [] [] [1, 2, 4, 5] [2, 4, 5] [] ⟨[(1, (.v (.func 132 []), [])), (2, (.ptr 2 0, [])), (4, (.ptr 4 0, [])), (5, (.ptr 5 0, []))], [(2, .cells [.int .i64 f239_.gKind, .str f239_.gName, .int .i64 f239_.gNum, .sl (List.map GTerm.c f239_.gKids)] []), (4, .cells [.int .i64 0, .str (bs []), .int .i64 0, .sl (List.map GTerm.c [])] [(3, .app 41)]), (5, .cells [.int .i64 f239_.gKind, .str f239_.gName, .int .i64 f239_.gNum, .sl (List.map GTerm.c [])] [(3, .app 41)])], []⟩ _ (by kernel_rfl) .nil ?_
      refine Wc.seqJ (fun st => ∃ (f240_ : GTerm), st = ⟨[(1, (.v (.func 132 []), [])), (2, (.ptr 2 0, [])), (4, (.ptr 4 0, [])), (5, (.ptr 5 0, []))], [(2, .cells [.int .i64 f239_.gKind, .str f239_.gName, .int .i64 f239_.gNum, .sl (List.map GTerm.c f239_.gKids)] []), (4, .cells [.int .i64 0, .str (bs []), .int .i64 0, .slx] [(3, .ex 41 true (List.map GTerm.c []))]), (5, .cells [.int .i64 f240_.gKind, .str f240_.gName, .int .i64 f240_.gNum, .slx] [(3, .ex 41 true (List.map GTerm.c f240_.gKids))])], []⟩ ∧ pimpl_renamed_on1_pimpl_copyTerm_1_d_J1 k (pimpl_renamed_on1_pimpl_copyTerm_1_d k) f239_ f240_ = some r) ?_ ?_
      · refine Wc.seq ?_
        refine Wc.region [] [] [1, 2, 4, 5, 12] [2, 4, 5] [] ⟨[(1, (.v (.func 132 []), [])), (2, (.ptr 2 0, [])), (4, (.ptr 4 0, [])), (5, (.ptr 5 0, [])), (12, (.v (.bool (f239_.gKind == 1)), []))], [(2, .cells [.int .i64 f239_.gKind, .str f239_.gName, .int .i64 f239_.gNum, .sl (List.map GTerm.c f239_.gKids)] []), (4, .cells [.int .i64 0, .str (bs []), .int .i64 0, .sl (List.map GTerm.c [])] [(3, .app 41)]), (5, .cells [.int .i64 f239_.gKind, .str f239_.gName, .int .i64 f239_.gNum, .sl (List.map GTerm.c [])] [(3, .app 41)])], []⟩ _ (by kernel_rfl) .nil ?_
        rcases oif h with ⟨h250, h⟩ | ⟨h250, h⟩
        · refine Wc.condT h250 (by kernel_rfl) ?_
          obtain ⟨b246_, h251, h⟩ := obind h
          refine Wc.region [{}, {}, {}, { r := some (.v (.int .i64 b246_) []) }] [.ow (.b 4 3) true, .ow (.b 5 3) true] [1, 2, 4, 5] [2, 4, 5] [] ⟨[(1, (.v (.func 132 []), [])), (2, (.ptr 2 0, [])), (4, (.ptr 4 0, [])), (5, (.ptr 5 0, []))], [(2, .cells [.int .i64 f239_.gKind, .str f239_.gName, .int .i64 f239_.gNum, .sl (List.map GTerm.c f239_.gKids)] []), (4, .cells [.int .i64 0, .str (bs []), .int .i64 0, .slx] [(3, .ex 41 true (List.map GTerm.c []))]), (5, .cells [.int .i64 f239_.gKind, .str f239_.gName, .int .i64 b246_, .slx] [(3, .ex 41 true (List.map GTerm.c []))])], []⟩ _ (by kernel_rfl) (.cons (cimpl_copyTerm_1 h251) .nil) ?_
          exact ⟨_, rfl, h⟩
        · refine Wc.condF h250 (by kernel_rfl) ?_
          refine Wc.fix (st' := ⟨[(1, (.v (.func 132 []), [])), (2, (.ptr 2 0, [])), (4, (.ptr 4 0, [])), (5, (.ptr 5 0, []))], [(2, .cells [.int .i64 f239_.gKind, .str f239_.gName, .int .i64 f239_.gNum, .sl (List.map GTerm.c f239_.gKids)] []), (4, .cells [.int .i64 0, .str (bs []), .int .i64 0, .slx] [(3, .ex 41 true (List.map GTerm.c []))]), (5, .cells [.int .i64 f239_.gKind, .str f239_.gName, .int .i64 f239_.gNum, .slx] [(3, .ex 41 true (List.map GTerm.c []))])], []⟩) [.ow (.b 4 3) true, .ow (.b 5 3) true] [1, 2, 4, 5] [2, 4, 5] [] (by kernel_rfl) ?_
          refine Wc.skip ?_
          exact ⟨_, rfl, h⟩
      · rintro st ⟨f240_, rfl, h⟩
        refine Wc.seq ?_
        refine Wc.seq ?_
        refine Wc.region [{}, {}, { v := some (.int .i64 (f239_.gKids.length : Int)) }] [] [1, 4, 5, 19, 20, 21] [4, 5] [] ⟨[(1, (.v (.func 132 []), [])), (4, (.ptr 4 0, [])), (5, (.ptr 5 0, [])), (19, (.v (.sl (List.map GTerm.c f239_.gKids)), [])), (20, (.v (.int .i64 (f239_.gKids.length : Int)), [])), (21, (.v (.int .i64 0), []))], [(4, .cells [.int .i64 0, .str (bs []), .int .i64 0, .slx] [(3, .ex 41 true (List.map GTerm.c []))]), (5, .cells [.int .i64 f240_.gKind, .str f240_.gName, .int .i64 f240_.gNum, .slx] [(3, .ex 41 true (List.map GTerm.c f240_.gKids))])], []⟩ _ (by kernel_rfl) (.cons (len_obl GTerm.c f239_.gKids) .nil) ?_
        obtain ⟨out2, h245, h⟩ := obind h
        refine Wc.lastJ (fun st => ∃ (f243_ : GTerm), out2 = .done f243_ ∧ st = ⟨[(4, (.ptr 4 0, [])), (5, (.ptr 5 0, []))], [(4, .cells [.int .i64 0, .str (bs []), .int .i64 0, .slx] [(3, .ex 41 true (List.map GTerm.c []))]), (5, .cells [.int .i64 f243_.gKind, .str f243_.gName, .int .i64 f243_.gNum, .slx] [(3, .ex 41 true (List.map GTerm.c f243_.gKids))])], []⟩) ?_ ?_
        · refine Wc.block ?_
          refine Wc.loop (fun m st => ∃ (b241_ : Int) (f242_ : GTerm), st = ⟨[(1, (.v (.func 132 []), [])), (4, (.ptr 4 0, [])), (5, (.ptr 5 0, [])), (19, (.v (.sl (List.map GTerm.c f239_.gKids)), [])), (20, (.v (.int .i64 (f239_.gKids.length : Int)), [])), (21, (.v (.int .i64 b241_), []))], [(4, .cells [.int .i64 0, .str (bs []), .int .i64 0, .slx] [(3, .ex 41 true (List.map GTerm.c []))]), (5, .cells [.int .i64 f242_.gKind, .str f242_.gName, .int .i64 f242_.gNum, .slx] [(3, .ex 41 true (List.map GTerm.c f242_.gKids))])], []⟩ ∧ pimpl_renamed_on1_pimpl_copyTerm_1_d_L2 k (pimpl_renamed_on1_pimpl_copyTerm_1_d k) f239_ m b241_ f242_ = some out2) ?_ k ⟨_, _, rfl, h245⟩
          rintro m st ⟨b241_, f242_, rfl, h245⟩
          cases m with
          | zero => exact (onone h245).elim
          | succ m =>
            refine Wc.seq ?_
            refine Wc.region [] [] [1, 4, 5, 19, 20, 21, 22] [4, 5] [] ⟨[(1, (.v (.func 132 []), [])), (4, (.ptr 4 0, [])), (5, (.ptr 5 0, [])), (19, (.v (.sl (List.map GTerm.c f239_.gKids)), [])), (20, (.v (.int .i64 (f239_.gKids.length : Int)), [])), (21, (.v (.int .i64 b241_), [])), (22, (.v (.bool (decide (b241_ < (f239_.gKids.length : Int)))), []))], [(4, .cells [.int .i64 0, .str (bs []), .int .i64 0, .slx] [(3, .ex 41 true (List.map GTerm.c []))]), (5, .cells [.int .i64 f242_.gKind, .str f242_.gName, .int .i64 f242_.gNum, .slx] [(3, .ex 41 true (List.map GTerm.c f242_.gKids))])], []⟩ _ (by kernel_rfl) .nil ?_
            refine Wc.seq ?_
            rcases oif h245 with ⟨h246, h245⟩ | ⟨h246, h245⟩
            · refine Wc.condT h246 (by kernel_rfl) ?_
              refine Wc.fix (st' := ⟨[(1, (.v (.func 132 []), [])), (4, (.ptr 4 0, [])), (5, (.ptr 5 0, [])), (19, (.v (.sl (List.map GTerm.c f239_.gKids)), [])), (20, (.v (.int .i64 (f239_.gKids.length : Int)), [])), (21, (.v (.int .i64 b241_), []))], [(4, .cells [.int .i64 0, .str (bs []), .int .i64 0, .slx] [(3, .ex 41 true (List.map GTerm.c []))]), (5, .cells [.int .i64 f242_.gKind, .str f242_.gName, .int .i64 f242_.gNum, .slx] [(3, .ex 41 true (List.map GTerm.c f242_.gKids))])], []⟩) [] [1, 4, 5, 19, 20, 21] [4, 5] [] (by kernel_rfl) ?_
              refine Wc.skip ?_
              refine Wc.seq ?_
              refine Wc.block ?_
              refine Wc.seq ?_
              obtain ⟨f244_, h247, h245⟩ := obind h245
              refine Wc.region [{ v := some (.vptr [.int .i64 f244_.gKind, .str f244_.gName, .int .i64 f244_.gNum, .sl (List.map GTerm.c f244_.gKids)]) }] [] [1, 4, 5, 7, 19, 20, 21] [4, 5, 7] [] ⟨[(1, (.v (.func 132 []), [])), (4, (.ptr 4 0, [])), (5, (.ptr 5 0, [])), (7, (.ptr 7 0, [])), (19, (.v (.sl (List.map GTerm.c f239_.gKids)), [])), (20, (.v (.int .i64 (f239_.gKids.length : Int)), [])), (21, (.v (.int .i64 b241_), []))], [(4, .cells [.int .i64 0, .str (bs []), .int .i64 0, .slx] [(3, .ex 41 true (List.map GTerm.c []))]), (5, .cells [.int .i64 f242_.gKind, .str f242_.gName, .int .i64 f242_.gNum, .slx] [(3, .ex 41 true (List.map GTerm.c f242_.gKids))]), (7, .cells [.int .i64 f244_.gKind, .str f244_.gName, .int .i64 f244_.gNum, .sl (List.map GTerm.c f244_.gKids)] [])], []⟩ _ (by kernel_rfl) (.cons (at_obl (c := GTerm.c) (GTerm.c_eq f244_) GTerm.c_len h247) (.cons (len_ok 4 [.int .i64 f244_.gKind, .str f244_.gName, .int .i64 f244_.gNum, .sl (List.map GTerm.c f244_.gKids)]) .nil)) ?_
              obtain ⟨f245_, h248, h245⟩ := obind h245
              obtain ⟨h249, h245⟩ := oguard h245
              refine Wc.draw hmix [{}, { md := 1 }, {}, {}, { r := some (.v (.agg [.int .i64 f245_.gKind, .str f245_.gName, .int .i64 f245_.gNum, .slx]) [(3, .ex 41 true (List.map GTerm.c f245_.gKids))]) }, { c := some (List.map GTerm.c [f245_]), tk := [29], md := 2 }, { c := some (List.map GTerm.c (f242_.gKids ++ [f245_])), tk := [26, 30], md := 2 }, {}, { tk := [31] }] [] [1, 4, 5, 19, 20, 21] [4, 5] [] ⟨[(1, (.v (.func 132 []), [])), (4, (.ptr 4 0, [])), (5, (.ptr 5 0, [])), (19, (.v (.sl (List.map GTerm.c f239_.gKids)), [])), (20, (.v (.int .i64 (f239_.gKids.length : Int)), [])), (21, (.v (.int .i64 b241_), []))], [(4, .cells [.int .i64 0, .str (bs []), .int .i64 0, .slx] [(3, .ex 41 true (List.map GTerm.c []))]), (5, .cells [.int .i64 f242_.gKind, .str f242_.gName, .int .i64 f242_.gNum, .slx] [(3, .ex 41 true (List.map GTerm.c (f242_.gKids ++ [f245_])))])], []⟩ _ (by kernel_rfl) (fun X => by kernel_rfl) (.cons (ih_pimpl_renamed_on1_pimpl_copyTerm_1_d h248) (.cons (cl_cons (c := GTerm.c) (x := f245_) (GTerm.c_eq f245_) (cl_nil GTerm.c)) (.cons (app_re2 GTerm.c f242_.gKids [f245_]) (.cons (app_obl2 (c := GTerm.c) (xs := f242_.gKids) (ys := [f245_]) GTerm.c_len h249) .nil)))) ?_
              refine Wc.region [] [] [1, 4, 5, 19, 20, 21] [4, 5] [] ⟨[(1, (.v (.func 132 []), [])), (4, (.ptr 4 0, [])), (5, (.ptr 5 0, [])), (19, (.v (.sl (List.map GTerm.c f239_.gKids)), [])), (20, (.v (.int .i64 (f239_.gKids.length : Int)), [])), (21, (.v (.int .i64 (wr.i64 (b241_ + 1))), []))], [(4, .cells [.int .i64 0, .str (bs []), .int .i64 0, .slx] [(3, .ex 41 true (List.map GTerm.c []))]), (5, .cells [.int .i64 f242_.gKind, .str f242_.gName, .int .i64 f242_.gNum, .slx] [(3, .ex 41 true (List.map GTerm.c (f242_.gKids ++ [f245_])))])], []⟩ _ (by kernel_rfl) .nil ?_
              exact ⟨_, Nat.lt_succ_self _, _, _, rfl, h245⟩
            · refine Wc.condF h246 (by kernel_rfl) ?_
              refine Wc.fix (st' := ⟨[(4, (.ptr 4 0, [])), (5, (.ptr 5 0, []))], [(4, .cells [.int .i64 0, .str (bs []), .int .i64 0, .slx] [(3, .ex 41 true (List.map GTerm.c []))]), (5, .cells [.int .i64 f242_.gKind, .str f242_.gName, .int .i64 f242_.gNum, .slx] [(3, .ex 41 true (List.map GTerm.c f242_.gKids))])], []⟩) [] [4, 5] [4, 5] [] (by kernel_rfl) ?_
              refine Wc.exit ?_
              obtain rfl := Option.some.inj h245
              exact ⟨_, rfl, rfl⟩
        · rintro st ⟨f243_, rfl, rfl⟩
          refine Wc.seq ?_
          refine Wc.region [{ md := 1 }, { tk := [34] }] [] [4] [4] [] ⟨[(4, (.ptr 4 0, []))], [(4, .cells [.int .i64 f243_.gKind, .str f243_.gName, .int .i64 f243_.gNum, .slx] [(3, .ex 41 true (List.map GTerm.c f243_.gKids))])], []⟩ _ (by kernel_rfl) .nil ?_
          refine Wc.ret ?_
          obtain rfl := Option.some.inj h
          exact ⟨.inl rfl, by kernel_rfl, by kernel_rfl⟩
theorem cimpl_renamed_on1_pimpl_copyTerm_1_d {k : Nat} {f239_ : GTerm} {r : GTerm} (h : pimpl_renamed_on1_pimpl_copyTerm_1_d k f239_ = some r) : FnO Try.prog 131 [.v (.agg [.int .i64 f239_.gKind, .str f239_.gName, .int .i64 f239_.gNum, .sl (List.map GTerm.c f239_.gKids)]) [], .v (.func 132 []) []] (.v (.agg [.int .i64 r.gKind, .str r.gName, .int .i64 r.gNum, .slx]) [(3, .ex 41 true (List.map GTerm.c r.gKids))]) [] := (all_pimpl_renamed_on1_pimpl_copyTerm_1_d k) h

/-- impl.copyTerm -/
def pimpl_copyTerm_d (k : Nat) (f237_ : GTerm) : Option GTerm :=
  (pimpl_renamed_on1_pimpl_copyTerm_1_d k f237_).bind fun f238_ =>
  some f238_
theorem cimpl_copyTerm_d {k : Nat} {f237_ : GTerm} {r : GTerm} (h : pimpl_copyTerm_d k f237_ = some r) : FnO Try.prog 75 [.v (.agg [.int .i64 f237_.gKind, .str f237_.gName, .int .i64 f237_.gNum, .sl (List.map GTerm.c f237_.gKids)]) []] (.v (.agg [.int .i64 r.gKind, .str r.gName, .int .i64 r.gNum, .slx]) [(3, .ex 41 true (List.map GTerm.c r.gKids))]) [] := by
  refine FnO.of Try.func75 (rfl : Try.f75.body = some _) (Nat.le_of_ble_eq_true (by kernel_rfl)) (Nat.le_of_ble_eq_true (by kernel_rfl)) ?_
  intro w0 X0 Fin pv0 pb
  unfold pimpl_copyTerm_d at h
  refine Wc.seq ?_
  refine Wc.region [] [] [1, 2] [1, 2] [] ⟨[(1, (.ptr 1 0, [])), (2, (.ptr 2 0, []))], [(1, .cells [.int .i64 f237_.gKind, .str f237_.gName, .int .i64 f237_.gNum, .sl (List.map GTerm.c f237_.gKids)] []), (2, .cells [.int .i64 0, .str (bs []), .int .i64 0, .sl (List.map GTerm.c [])] [(3, .app 41)])], []⟩ _ (by kernel_rfl) .nil ?_
  refine Wc.seq ?_
  obtain ⟨f238_, h244, h⟩ := obind h
  refine Wc.region [{}, { r := some (.v (.agg [.int .i64 f238_.gKind, .str f238_.gName, .int .i64 f238_.gNum, .slx]) [(3, .ex 41 true (List.map GTerm.c f238_.gKids))]) }, { tk := [4] }] [] [2] [2] [] ⟨[(2, (.ptr 2 0, []))], [(2, .cells [.int .i64 f238_.gKind, .str f238_.gName, .int .i64 f238_.gNum, .slx] [(3, .ex 41 true (List.map GTerm.c f238_.gKids))])], []⟩ _ (by kernel_rfl) (.cons (cimpl_renamed_on1_pimpl_copyTerm_1_d h244) .nil) ?_
  refine Wc.ret ?_
  obtain rfl := Option.some.inj h
  exact ⟨.inl rfl, by kernel_rfl, by kernel_rfl⟩

def pimpl_ItemsOf_d_L1 (k : Nat) : Nat → (List GTerm) → GTerm → Option (Out ((List GTerm) × Bool) ((List GTerm) × GTerm))
  | 0, _, _ => none
  | m + 1, m244_, f245_ =>
    (pimpl_isPair k f245_).bind fun g248_ =>
    if g248_ = true then
      (at' f245_.gKids 0).bind fun f249_ =>
      (pimpl_copyTerm_d k f249_).bind fun f250_ =>
      if m244_.length + [f250_].length ≤ 1073741824 then
        (at' f245_.gKids 1).bind fun f251_ =>
        pimpl_ItemsOf_d_L1 k m (m244_ ++ [f250_]) f251_
      else none
    else
      some (.done (m244_, f245_))
/-- impl.ItemsOf -/
def pimpl_ItemsOf_d (k : Nat) (f242_ : GTerm) : Option ((List GTerm) × Bool) :=
  (pimpl_TermOk k f242_).bind fun g243_ =>
  if (!g243_) = true then
    some ([], false)
  else
    (pimpl_ItemsOf_d_L1 k k [] f242_).bind fun out1 => match out1 with
    | .ret r => some r
    | .done (m246_, f247_) =>
      (pimpl_isAtom k f247_ (bs [91, 93])).bind fun g252_ =>
      if (!g252_) = true then
        some ([], false)
      else
        some (m246_, true)
theorem cimpl_ItemsOf_d {k : Nat} {f242_ : GTerm} {r : (List GTerm) × Bool} (h : pimpl_ItemsOf_d k f242_ = some r) : FnO Try.prog 22 [.v (.agg [.int .i64 f242_.gKind, .str f242_.gName, .int .i64 f242_.gNum, .sl (List.map GTerm.c f242_.gKids)]) []] (.v (.tup [.slx, .bool r.2]) [(0, .ex 41 true (List.map GTerm.c r.1))]) [] := by
  refine FnO.of Try.func22 (rfl : Try.f22.body = some _) (Nat.le_of_ble_eq_true (by kernel_rfl)) (Nat.le_of_ble_eq_true (by kernel_rfl)) ?_
  intro w0 X0 Fin pv0 pb
  unfold pimpl_ItemsOf_d at h
  refine Wc.seq ?_
  refine Wc.region [] [] [1] [1] [] ⟨[(1, (.ptr 1 0, []))], [(1, .cells [.int .i64 f242_.gKind, .str f242_.gName, .int .i64 f242_.gNum, .sl (List.map GTerm.c f242_.gKids)] [])], []⟩ _ (by kernel_rfl) .nil ?_
  refine Wc.seq ?_
  refine Wc.seq ?_
  obtain ⟨g243_, h249, h⟩ := obind h
  refine Wc.region [{}, { r := some (.v (.bool g243_) []) }] [] [1, 7] [1] [] ⟨[(1, (.ptr 1 0, [])), (7, (.v (.bool (!g243_)), []))], [(1, .cells [.int .i64 f242_.gKind, .str f242_.gName, .int .i64 f242_.gNum, .sl (List.map GTerm.c f242_.gKids)] [])], []⟩ _ (by kernel_rfl) (.cons (cimpl_TermOk h249) .nil) ?_
  rcases oif h with ⟨h250, h⟩ | ⟨h250, h⟩
  · refine Wc.condT h250 (by kernel_rfl) ?_
    refine Wc.seq ?_
    refine Wc.region [] [] [2, 3] [] [] ⟨[(2, (.v (.sl (List.map GTerm.c [])), [(0, .app 41)])), (3, (.v (.bool false), []))], [], []⟩ _ (by kernel_rfl) .nil ?_
    refine Wc.fix (st' := ⟨[(2, (.v (.slx), [(0, .ex 41 true (List.map GTerm.c []))])), (3, (.v (.bool false), []))], [], []⟩) [.ow (.t 2 0) true] [2, 3] [] [] (by kernel_rfl) ?_
    refine Wc.ret ?_
    obtain rfl := Option.some.inj h
    exact ⟨.inl rfl, by kernel_rfl, by kernel_rfl⟩
  · refine Wc.condF h250 (by kernel_rfl) ?_
    refine Wc.fix (st' := ⟨[(1, (.ptr 1 0, []))], [(1, .cells [.int .i64 f242_.gKind, .str f242_.gName, .int .i64 f242_.gNum, .sl (List.map GTerm.c f242_.gKids)] [])], []⟩) [] [1] [1] [] (by kernel_rfl) ?_
    refine Wc.skip ?_
    refine Wc.seq ?_
    refine Wc.region [] [] [1, 4] [1] [] ⟨[(1, (.ptr 1 0, [])), (4, (.v (.sl (List.map GTerm.c [])), [(0, .app 41)]))], [(1, .cells [.int .i64 f242_.gKind, .str f242_.gName, .int .i64 f242_.gNum, .sl (List.map GTerm.c f242_.gKids)] [])], []⟩ _ (by kernel_rfl) .nil ?_
    obtain ⟨out1, h251, h⟩ := obind h
    refine Wc.seqJ (fun st => ∃ (m246_ : List GTerm) (f247_ : GTerm), out1 = .done (m246_, f247_) ∧ st = ⟨[(1, (.ptr 1 0, [])), (4, (.v (.slx), [(0, .ex 41 true (List.map GTerm.c m246_))]))], [(1, .cells [.int .i64 f247_.gKind, .str f247_.gName, .int .i64 f247_.gNum, .sl (List.map GTerm.c f247_.gKids)] [])], []⟩) ?_ ?_
    · refine Wc.block ?_
      refine Wc.fix (st' := ⟨[(1, (.ptr 1 0, [])), (4, (.v (.slx), [(0, .ex 41 true (List.map GTerm.c []))]))], [(1, .cells [.int .i64 f242_.gKind, .str f242_.gName, .int .i64 f242_.gNum, .sl (List.map GTerm.c f242_.gKids)] [])], []⟩) [.ow (.t 4 0) true] [1, 4] [1] [] (by kernel_rfl) ?_
      refine Wc.loop (fun m st => ∃ (m244_ : List GTerm) (f245_ : GTerm), st = ⟨[(1, (.ptr 1 0, [])), (4, (.v (.slx), [(0, .ex 41 true (List.map GTerm.c m244_))]))], [(1, .cells [.int .i64 f245_.gKind, .str f245_.gName, .int .i64 f245_.gNum, .sl (List.map GTerm.c f245_.gKids)] [])], []⟩ ∧ pimpl_ItemsOf_d_L1 k m m244_ f245_ = some out1) ?_ k ⟨_, _, rfl, h251⟩
      rintro m st ⟨m244_, f245_, rfl, h251⟩
      cases m with
      | zero => exact (onone h251).elim
      | succ m =>
        refine Wc.seq ?_
        refine Wc.seq ?_
        obtain ⟨g248_, h252, h251⟩ := obind h251
        refine Wc.region [{}, { r := some (.v (.bool g248_) []) }] [] [1, 4, 9] [1] [] ⟨[(1, (.ptr 1 0, [])), (4, (.v (.slx), [(0, .ex 41 true (List.map GTerm.c m244_))])), (9, (.v (.bool g248_), []))], [(1, .cells [.int .i64 f245_.gKind, .str f245_.gName, .int .i64 f245_.gNum, .sl (List.map GTerm.c f245_.gKids)] [])], []⟩ _ (by kernel_rfl) (.cons (cimpl_isPair h252) .nil) ?_
        rcases oif h251 with ⟨h253, h251⟩ | ⟨h253, h251⟩
        · refine Wc.condT h253 (by kernel_rfl) ?_
          refine Wc.fix (st' := ⟨[(1, (.ptr 1 0, [])), (4, (.v (.slx), [(0, .ex 41 true (List.map GTerm.c m244_))]))], [(1, .cells [.int .i64 f245_.gKind, .str f245_.gName, .int .i64 f245_.gNum, .sl (List.map GTerm.c f245_.gKids)] [])], []⟩) [] [1, 4] [1] [] (by kernel_rfl) ?_
          refine Wc.skip ?_
          refine Wc.seq ?_
          refine Wc.block ?_
          obtain ⟨f249_, h254, h251⟩ := obind h251
          obtain ⟨f250_, h255, h251⟩ := obind h251
          obtain ⟨h256, h251⟩ := oguard h251
          refine Wc.region [{ tk := [4] }, {}, {}, { v := some (.vptr [.int .i64 f249_.gKind, .str f249_.gName, .int .i64 f249_.gNum, .sl (List.map GTerm.c f249_.gKids)]) }, {}, { r := some (.v (.agg [.int .i64 f250_.gKind, .str f250_.gName, .int .i64 f250_.gNum, .slx]) [(3, .ex 41 true (List.map GTerm.c f250_.gKids))]) }, { c := some (List.map GTerm.c [f250_]), tk := [19], md := 2 }, { c := some (List.map GTerm.c (m244_ ++ [f250_])), tk := [14, 20], md := 2 }, { tk := [21] }] [] [1, 4] [1] [] ⟨[(1, (.ptr 1 0, [])), (4, (.v (.slx), [(0, .ex 41 true (List.map GTerm.c (m244_ ++ [f250_])))]))], [(1, .cells [.int .i64 f245_.gKind, .str f245_.gName, .int .i64 f245_.gNum, .sl (List.map GTerm.c f245_.gKids)] [])], []⟩ _ (by kernel_rfl) (.cons (at_obl (c := GTerm.c) (GTerm.c_eq f249_) GTerm.c_len h254) (.cons (len_ok 4 [.int .i64 f249_.gKind, .str f249_.gName, .int .i64 f249_.gNum, .sl (List.map GTerm.c f249_.gKids)]) (.cons (cimpl_copyTerm_d h255) (.cons (cl_cons (c := GTerm.c) (x := f250_) (GTerm.c_eq f250_) (cl_nil GTerm.c)) (.cons (app_re2 GTerm.c m244_ [f250_]) (.cons (app_obl2 (c := GTerm.c) (xs := m244_) (ys := [f250_]) GTerm.c_len h256) .nil)))))) ?_
          obtain ⟨f251_, h257, h251⟩ := obind h251
          refine Wc.region [{}, {}, { v := some (.vptr [.int .i64 f251_.gKind, .str f251_.gName, .int .i64 f251_.gNum, .sl (List.map GTerm.c f251_.gKids)]) }] [] [1, 4] [1] [] ⟨[(1, (.ptr 1 0, [])), (4, (.v (.slx), [(0, .ex 41 true (List.map GTerm.c (m244_ ++ [f250_])))]))], [(1, .cells [.int .i64 f251_.gKind, .str f251_.gName, .int .i64 f251_.gNum, .sl (List.map GTerm.c f251_.gKids)] [])], []⟩ _ (by kernel_rfl) (.cons (at_obl (c := GTerm.c) (GTerm.c_eq f251_) GTerm.c_len h257) (.cons (len_ok 4 [.int .i64 f251_.gKind, .str f251_.gName, .int .i64 f251_.gNum, .sl (List.map GTerm.c f251_.gKids)]) .nil)) ?_
          exact ⟨_, Nat.lt_succ_self _, _, _, rfl, h251⟩
        · refine Wc.condF h253 (by kernel_rfl) ?_
          refine Wc.fix (st' := ⟨[(1, (.ptr 1 0, [])), (4, (.v (.slx), [(0, .ex 41 true (List.map GTerm.c m244_))]))], [(1, .cells [.int .i64 f245_.gKind, .str f245_.gName, .int .i64 f245_.gNum, .sl (List.map GTerm.c f245_.gKids)] [])], []⟩) [] [1, 4] [1] [] (by kernel_rfl) ?_
          refine Wc.exit ?_
          obtain rfl := Option.some.inj h251
          exact ⟨_, _, rfl, rfl⟩
    · rintro st ⟨m246_, f247_, rfl, rfl⟩
      refine Wc.seq ?_
      refine Wc.seq ?_
      obtain ⟨g252_, h258, h⟩ := obind h
      refine Wc.region [{}, { r := some (.v (.bool g252_) []) }] [] [4, 24] [] [] ⟨[(4, (.v (.slx), [(0, .ex 41 true (List.map GTerm.c m246_))])), (24, (.v (.bool (!g252_)), []))], [], []⟩ _ (by kernel_rfl) (.cons (cimpl_isAtom h258) .nil) ?_
      rcases oif h with ⟨h259, h⟩ | ⟨h259, h⟩
      · refine Wc.condT h259 (by kernel_rfl) ?_
        refine Wc.seq ?_
        refine Wc.region [] [] [2, 3] [] [] ⟨[(2, (.v (.sl (List.map GTerm.c [])), [(0, .app 41)])), (3, (.v (.bool false), []))], [], []⟩ _ (by kernel_rfl) .nil ?_
        refine Wc.fix (st' := ⟨[(2, (.v (.slx), [(0, .ex 41 true (List.map GTerm.c []))])), (3, (.v (.bool false), []))], [], []⟩) [.ow (.t 2 0) true] [2, 3] [] [] (by kernel_rfl) ?_
        refine Wc.ret ?_
        obtain rfl := Option.some.inj h
        exact ⟨.inl rfl, by kernel_rfl, by kernel_rfl⟩
      · refine Wc.condF h259 (by kernel_rfl) ?_
        refine Wc.fix (st' := ⟨[(4, (.v (.slx), [(0, .ex 41 true (List.map GTerm.c m246_))]))], [], []⟩) [] [4] [] [] (by kernel_rfl) ?_
        refine Wc.skip ?_
        refine Wc.seq ?_
        refine Wc.region [{ tk := [4] }, { tk := [25] }] [] [2, 3] [] [] ⟨[(2, (.v (.slx), [(0, .ex 41 true (List.map GTerm.c m246_))])), (3, (.v (.bool true), []))], [], []⟩ _ (by kernel_rfl) .nil ?_
        refine Wc.ret ?_
        obtain rfl := Option.some.inj h
        exact ⟨.inl rfl, by kernel_rfl, by kernel_rfl⟩
end Go.Proofs.Ythemaodhckmnkaa

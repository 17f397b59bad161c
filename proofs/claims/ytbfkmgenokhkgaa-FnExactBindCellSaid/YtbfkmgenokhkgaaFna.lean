/- What the functions do, part 1. -/
import Derived.Test.YtbfkmgenokhkgaaTy
set_option linter.unusedVariables false
set_option linter.unusedSimpArgs false
namespace Go.Proofs.Ytbfkmgenokhkgaa
open Go.RowKit Go.Bv
/-- laws.szIntS -/
def plaws_szIntS (k : Nat) (a1_ : List Int) (b2_ : Int) : Option Int :=
  if (decide ((wr.i64 (b2_ - (a1_.length : Int))) < 0)) = true then
    some (-1)
  else
    some (wr.i64 (b2_ - (a1_.length : Int)))
theorem claws_szIntS {k : Nat} {a1_ : List Int} {b2_ : Int} {r : Int} (h : plaws_szIntS k a1_ b2_ = some r) : FnO Try.prog 75 [.v (.sl (List.map cI.i64 a1_)) [], .v (.int .i64 b2_) []] (.v (.int .i64 r) []) [] := by
  refine FnO.of Try.func75 (rfl : Try.f75.body = some _) (Nat.le_of_ble_eq_true (by kernel_rfl)) (Nat.le_of_ble_eq_true (by kernel_rfl)) ?_
  intro w0 X0 Fin pv0 pb
  unfold plaws_szIntS at h
  refine Wc.seq ?_
  refine Wc.region [] [] [0, 1] [] [] ⟨[(0, (.v (.sl (List.map cI.i64 a1_)), [])), (1, (.v (.int .i64 b2_), []))], [], []⟩ _ (by kernel_rfl) .nil ?_
  refine Wc.seq ?_
  refine Wc.region [{}, {}, { v := some (.int .i64 (a1_.length : Int)) }] [] [1] [] [] ⟨[(1, (.v (.int .i64 (wr.i64 (b2_ - (a1_.length : Int)))), []))], [], []⟩ _ (by kernel_rfl) (.cons (len_obl cI.i64 a1_) .nil) ?_
  refine Wc.seq ?_
  refine Wc.seq ?_
  refine Wc.region [] [] [1, 10] [] [] ⟨[(1, (.v (.int .i64 (wr.i64 (b2_ - (a1_.length : Int)))), [])), (10, (.v (.bool (decide ((wr.i64 (b2_ - (a1_.length : Int))) < 0))), []))], [], []⟩ _ (by kernel_rfl) .nil ?_
  rcases oif h with ⟨h1, h⟩ | ⟨h1, h⟩
  · refine Wc.condT h1 (by kernel_rfl) ?_
    refine Wc.seq ?_
    refine Wc.region [] [] [4] [] [] ⟨[(4, (.v (.int .i64 (-1)), []))], [], []⟩ _ (by kernel_rfl) .nil ?_
    refine Wc.ret ?_
    obtain rfl := Option.some.inj h
    exact ⟨.inl rfl, by kernel_rfl, by kernel_rfl⟩
  · refine Wc.condF h1 (by kernel_rfl) ?_
    refine Wc.fix (st' := ⟨[(1, (.v (.int .i64 (wr.i64 (b2_ - (a1_.length : Int)))), []))], [], []⟩) [] [1] [] [] (by kernel_rfl) ?_
    refine Wc.skip ?_
    refine Wc.seq ?_
    refine Wc.region [] [] [4] [] [] ⟨[(4, (.v (.int .i64 (wr.i64 (b2_ - (a1_.length : Int)))), []))], [], []⟩ _ (by kernel_rfl) .nil ?_
    refine Wc.ret ?_
    obtain rfl := Option.some.inj h
    exact ⟨.inl rfl, by kernel_rfl, by kernel_rfl⟩

/-- laws.szCell -/
def plaws_szCell (k : Nat) (c3_ : GCell) (b4_ : Int) : Option Int :=
  if (decide ((wr.i64 (b4_ - (c3_.gName.size : Int))) < 0)) = true then
    some (-1)
  else
    (plaws_szIntS k c3_.gKids (wr.i64 (b4_ - (c3_.gName.size : Int)))).bind fun b5_ =>
    if (decide (b5_ < 0)) = true then
      some (-1)
    else
      some b5_
theorem claws_szCell {k : Nat} {c3_ : GCell} {b4_ : Int} {r : Int} (h : plaws_szCell k c3_ b4_ = some r) : FnO Try.prog 111 [.v (.agg [.int .i64 c3_.gKind, .str c3_.gName, .int .i64 c3_.gNum, .int .i64 c3_.gTo, .sl (List.map cI.i64 c3_.gKids)]) [], .v (.int .i64 b4_) []] (.v (.int .i64 r) []) [] := by
  refine FnO.of Try.func111 (rfl : Try.f111.body = some _) (Nat.le_of_ble_eq_true (by kernel_rfl)) (Nat.le_of_ble_eq_true (by kernel_rfl)) ?_
  intro w0 X0 Fin pv0 pb
  unfold plaws_szCell at h
  refine Wc.seq ?_
  refine Wc.region [] [] [1, 2] [2] [] ⟨[(1, (.v (.int .i64 b4_), [])), (2, (.ptr 2 0, []))], [(2, .cells [.int .i64 c3_.gKind, .str c3_.gName, .int .i64 c3_.gNum, .int .i64 c3_.gTo, .sl (List.map cI.i64 c3_.gKids)] [])], []⟩ _ (by kernel_rfl) .nil ?_
  refine Wc.seq ?_
  refine Wc.region [] [] [1, 2] [2] [] ⟨[(1, (.v (.int .i64 (wr.i64 (b4_ - (c3_.gName.size : Int)))), [])), (2, (.ptr 2 0, []))], [(2, .cells [.int .i64 c3_.gKind, .str c3_.gName, .int .i64 c3_.gNum, .int .i64 c3_.gTo, .sl (List.map cI.i64 c3_.gKids)] [])], []⟩ _ (by kernel_rfl) .nil ?_
  refine Wc.seq ?_
  refine Wc.seq ?_
  refine Wc.region [] [] [1, 2, 11] [2] [] ⟨[(1, (.v (.int .i64 (wr.i64 (b4_ - (c3_.gName.size : Int)))), [])), (2, (.ptr 2 0, [])), (11, (.v (.bool (decide ((wr.i64 (b4_ - (c3_.gName.size : Int))) < 0))), []))], [(2, .cells [.int .i64 c3_.gKind, .str c3_.gName, .int .i64 c3_.gNum, .int .i64 c3_.gTo, .sl (List.map cI.i64 c3_.gKids)] [])], []⟩ _ (by kernel_rfl) .nil ?_
  rcases oif h with ⟨h2, h⟩ | ⟨h2, h⟩
  · refine Wc.condT h2 (by kernel_rfl) ?_
    refine Wc.seq ?_
    refine Wc.region [] [] [4] [] [] ⟨[(4, (.v (.int .i64 (-1)), []))], [], []⟩ _ (by kernel_rfl) .nil ?_
    refine Wc.ret ?_
    obtain rfl := Option.some.inj h
    exact ⟨.inl rfl, by kernel_rfl, by kernel_rfl⟩
  · refine Wc.condF h2 (by kernel_rfl) ?_
    refine Wc.fix (st' := ⟨[(1, (.v (.int .i64 (wr.i64 (b4_ - (c3_.gName.size : Int)))), [])), (2, (.ptr 2 0, []))], [(2, .cells [.int .i64 c3_.gKind, .str c3_.gName, .int .i64 c3_.gNum, .int .i64 c3_.gTo, .sl (List.map cI.i64 c3_.gKids)] [])], []⟩) [] [1, 2] [2] [] (by kernel_rfl) ?_
    refine Wc.skip ?_
    refine Wc.seq ?_
    obtain ⟨b5_, h3, h⟩ := obind h
    refine Wc.region [{}, {}, {}, { r := some (.v (.int .i64 b5_) []) }] [] [1] [] [] ⟨[(1, (.v (.int .i64 b5_), []))], [], []⟩ _ (by kernel_rfl) (.cons (claws_szIntS h3) .nil) ?_
    refine Wc.seq ?_
    refine Wc.seq ?_
    refine Wc.region [] [] [1, 17] [] [] ⟨[(1, (.v (.int .i64 b5_), [])), (17, (.v (.bool (decide (b5_ < 0))), []))], [], []⟩ _ (by kernel_rfl) .nil ?_
    rcases oif h with ⟨h4, h⟩ | ⟨h4, h⟩
    · refine Wc.condT h4 (by kernel_rfl) ?_
      refine Wc.seq ?_
      refine Wc.region [] [] [4] [] [] ⟨[(4, (.v (.int .i64 (-1)), []))], [], []⟩ _ (by kernel_rfl) .nil ?_
      refine Wc.ret ?_
      obtain rfl := Option.some.inj h
      exact ⟨.inl rfl, by kernel_rfl, by kernel_rfl⟩
    · refine Wc.condF h4 (by kernel_rfl) ?_
      refine Wc.fix (st' := ⟨[(1, (.v (.int .i64 b5_), []))], [], []⟩) [] [1] [] [] (by kernel_rfl) ?_
      refine Wc.skip ?_
      refine Wc.seq ?_
      refine Wc.region [] [] [4] [] [] ⟨[(4, (.v (.int .i64 b5_), []))], [], []⟩ _ (by kernel_rfl) .nil ?_
      refine Wc.ret ?_
      obtain rfl := Option.some.inj h
      exact ⟨.inl rfl, by kernel_rfl, by kernel_rfl⟩

def plaws_szCellS_L1 (k : Nat) (d6_ : List GCell) : Nat → Int → Int → Option (Out Int Int)
  | 0, _, _ => none
  | m + 1, b8_, b9_ =>
    if (decide (b9_ < (d6_.length : Int))) = true then
      (at' d6_ b9_).bind fun c11_ =>
      (plaws_szCell k c11_ b8_).bind fun b12_ =>
      if (decide (b12_ < 0)) = true then
        some (.ret (-1))
      else
        plaws_szCellS_L1 k d6_ m b12_ (wr.i64 (b9_ + 1))
    else
      some (.done b8_)
/-- laws.szCellS -/
def plaws_szCellS (k : Nat) (d6_ : List GCell) (b7_ : Int) : Option Int :=
  if (decide ((wr.i64 (b7_ - (d6_.length : Int))) < 0)) = true then
    some (-1)
  else
    (plaws_szCellS_L1 k d6_ k (wr.i64 (b7_ - (d6_.length : Int))) 0).bind fun out1 => match out1 with
    | .ret r => some r
    | .done b10_ =>
      some b10_
theorem claws_szCellS {k : Nat} {d6_ : List GCell} {b7_ : Int} {r : Int} (h : plaws_szCellS k d6_ b7_ = some r) : FnO Try.prog 74 [.v (.sl (List.map GCell.c d6_)) [], .v (.int .i64 b7_) []] (.v (.int .i64 r) []) [] := by
  refine FnO.of Try.func74 (rfl : Try.f74.body = some _) (Nat.le_of_ble_eq_true (by kernel_rfl)) (Nat.le_of_ble_eq_true (by kernel_rfl)) ?_
  intro w0 X0 Fin pv0 pb
  unfold plaws_szCellS at h
  refine Wc.seq ?_
  refine Wc.region [] [] [0, 1] [] [] ⟨[(0, (.v (.sl (List.map GCell.c d6_)), [])), (1, (.v (.int .i64 b7_), []))], [], []⟩ _ (by kernel_rfl) .nil ?_
  refine Wc.seq ?_
  refine Wc.region [{}, {}, { v := some (.int .i64 (d6_.length : Int)) }] [] [0, 1] [] [] ⟨[(0, (.v (.sl (List.map GCell.c d6_)), [])), (1, (.v (.int .i64 (wr.i64 (b7_ - (d6_.length : Int)))), []))], [], []⟩ _ (by kernel_rfl) (.cons (len_obl GCell.c d6_) .nil) ?_
  refine Wc.seq ?_
  refine Wc.seq ?_
  refine Wc.region [] [] [0, 1, 11] [] [] ⟨[(0, (.v (.sl (List.map GCell.c d6_)), [])), (1, (.v (.int .i64 (wr.i64 (b7_ - (d6_.length : Int)))), [])), (11, (.v (.bool (decide ((wr.i64 (b7_ - (d6_.length : Int))) < 0))), []))], [], []⟩ _ (by kernel_rfl) .nil ?_
  rcases oif h with ⟨h5, h⟩ | ⟨h5, h⟩
  · refine Wc.condT h5 (by kernel_rfl) ?_
    refine Wc.seq ?_
    refine Wc.region [] [] [4] [] [] ⟨[(4, (.v (.int .i64 (-1)), []))], [], []⟩ _ (by kernel_rfl) .nil ?_
    refine Wc.ret ?_
    obtain rfl := Option.some.inj h
    exact ⟨.inl rfl, by kernel_rfl, by kernel_rfl⟩
  · refine Wc.condF h5 (by kernel_rfl) ?_
    refine Wc.fix (st' := ⟨[(0, (.v (.sl (List.map GCell.c d6_)), [])), (1, (.v (.int .i64 (wr.i64 (b7_ - (d6_.length : Int)))), []))], [], []⟩) [] [0, 1] [] [] (by kernel_rfl) ?_
    refine Wc.skip ?_
    refine Wc.seq ?_
    refine Wc.seq ?_
    refine Wc.region [] [] [0, 1, 5] [] [] ⟨[(0, (.v (.sl (List.map GCell.c d6_)), [])), (1, (.v (.int .i64 (wr.i64 (b7_ - (d6_.length : Int)))), [])), (5, (.v (.int .i64 0), []))], [], []⟩ _ (by kernel_rfl) .nil ?_
    obtain ⟨out1, h6, h⟩ := obind h
    refine Wc.lastJ (fun st => ∃ (b10_ : Int), out1 = .done b10_ ∧ st = ⟨[(1, (.v (.int .i64 b10_), []))], [], []⟩) ?_ ?_
    · refine Wc.block ?_
      refine Wc.loop (fun m st => ∃ (b8_ : Int) (b9_ : Int), st = ⟨[(0, (.v (.sl (List.map GCell.c d6_)), [])), (1, (.v (.int .i64 b8_), [])), (5, (.v (.int .i64 b9_), []))], [], []⟩ ∧ plaws_szCellS_L1 k d6_ m b8_ b9_ = some out1) ?_ k ⟨_, _, rfl, h6⟩
      rintro m st ⟨b8_, b9_, rfl, h6⟩
      cases m with
      | zero => exact (onone h6).elim
      | succ m =>
        refine Wc.seq ?_
        refine Wc.seq ?_
        refine Wc.region [{}, {}, { v := some (.int .i64 (d6_.length : Int)) }] [] [0, 1, 5, 15] [] [] ⟨[(0, (.v (.sl (List.map GCell.c d6_)), [])), (1, (.v (.int .i64 b8_), [])), (5, (.v (.int .i64 b9_), [])), (15, (.v (.bool (decide (b9_ < (d6_.length : Int)))), []))], [], []⟩ _ (by kernel_rfl) (.cons (len_obl GCell.c d6_) .nil) ?_
        rcases oif h6 with ⟨h7, h6⟩ | ⟨h7, h6⟩
        · refine Wc.condT h7 (by kernel_rfl) ?_
          refine Wc.fix (st' := ⟨[(0, (.v (.sl (List.map GCell.c d6_)), [])), (1, (.v (.int .i64 b8_), [])), (5, (.v (.int .i64 b9_), []))], [], []⟩) [] [0, 1, 5] [] [] (by kernel_rfl) ?_
          refine Wc.skip ?_
          refine Wc.seq ?_
          refine Wc.block ?_
          refine Wc.seq ?_
          obtain ⟨c11_, h8, h6⟩ := obind h6
          obtain ⟨b12_, h9, h6⟩ := obind h6
          refine Wc.region [{}, {}, { v := some (.vptr [.int .i64 c11_.gKind, .str c11_.gName, .int .i64 c11_.gNum, .int .i64 c11_.gTo, .sl (List.map cI.i64 c11_.gKids)]) }, {}, {}, { r := some (.v (.int .i64 b12_) []) }] [] [0, 1, 5] [] [] ⟨[(0, (.v (.sl (List.map GCell.c d6_)), [])), (1, (.v (.int .i64 b12_), [])), (5, (.v (.int .i64 b9_), []))], [], []⟩ _ (by kernel_rfl) (.cons (at_obl (c := GCell.c) (GCell.c_eq c11_) GCell.c_len h8) (.cons (len_ok 5 [.int .i64 c11_.gKind, .str c11_.gName, .int .i64 c11_.gNum, .int .i64 c11_.gTo, .sl (List.map cI.i64 c11_.gKids)]) (.cons (claws_szCell h9) .nil))) ?_
          refine Wc.seq ?_
          refine Wc.region [] [] [0, 1, 5, 25] [] [] ⟨[(0, (.v (.sl (List.map GCell.c d6_)), [])), (1, (.v (.int .i64 b12_), [])), (5, (.v (.int .i64 b9_), [])), (25, (.v (.bool (decide (b12_ < 0))), []))], [], []⟩ _ (by kernel_rfl) .nil ?_
          rcases oif h6 with ⟨h10, h6⟩ | ⟨h10, h6⟩
          · refine Wc.condT h10 (by kernel_rfl) ?_
            refine Wc.seq ?_
            refine Wc.region [] [] [4] [] [] ⟨[(4, (.v (.int .i64 (-1)), []))], [], []⟩ _ (by kernel_rfl) .nil ?_
            refine Wc.ret ?_
            obtain rfl := Option.some.inj h6
            obtain rfl := Option.some.inj h
            exact ⟨.inl rfl, by kernel_rfl, by kernel_rfl⟩
          · refine Wc.condF h10 (by kernel_rfl) ?_
            refine Wc.fix (st' := ⟨[(0, (.v (.sl (List.map GCell.c d6_)), [])), (1, (.v (.int .i64 b12_), [])), (5, (.v (.int .i64 b9_), []))], [], []⟩) [] [0, 1, 5] [] [] (by kernel_rfl) ?_
            refine Wc.skip ?_
            refine Wc.region [] [] [0, 1, 5] [] [] ⟨[(0, (.v (.sl (List.map GCell.c d6_)), [])), (1, (.v (.int .i64 b12_), [])), (5, (.v (.int .i64 (wr.i64 (b9_ + 1))), []))], [], []⟩ _ (by kernel_rfl) .nil ?_
            exact ⟨_, Nat.lt_succ_self _, _, _, rfl, h6⟩
        · refine Wc.condF h7 (by kernel_rfl) ?_
          refine Wc.fix (st' := ⟨[(1, (.v (.int .i64 b8_), []))], [], []⟩) [] [1] [] [] (by kernel_rfl) ?_
          refine Wc.exit ?_
          obtain rfl := Option.some.inj h6
          exact ⟨_, rfl, rfl⟩
    · rintro st ⟨b10_, rfl, rfl⟩
      refine Wc.seq ?_
      refine Wc.region [] [] [4] [] [] ⟨[(4, (.v (.int .i64 b10_), []))], [], []⟩ _ (by kernel_rfl) .nil ?_
      refine Wc.ret ?_
      obtain rfl := Option.some.inj h
      exact ⟨.inl rfl, by kernel_rfl, by kernel_rfl⟩

/-- laws.szHeap -/
def plaws_szHeap (k : Nat) (e13_ : GHeap) (b14_ : Int) : Option Int :=
  (plaws_szCellS k e13_.gCells b14_).bind fun b15_ =>
  if (decide (b15_ < 0)) = true then
    some (-1)
  else
    (plaws_szIntS k e13_.gTrail b15_).bind fun b16_ =>
    if (decide (b16_ < 0)) = true then
      some (-1)
    else
      some b16_
theorem claws_szHeap {k : Nat} {e13_ : GHeap} {b14_ : Int} {r : Int} (h : plaws_szHeap k e13_ b14_ = some r) : FnO Try.prog 36 [.v (.agg [.sl (List.map GCell.c e13_.gCells), .sl (List.map cI.i64 e13_.gTrail)]) [], .v (.int .i64 b14_) []] (.v (.int .i64 r) []) [] := by
  refine FnO.of Try.func36 (rfl : Try.f36.body = some _) (Nat.le_of_ble_eq_true (by kernel_rfl)) (Nat.le_of_ble_eq_true (by kernel_rfl)) ?_
  intro w0 X0 Fin pv0 pb
  unfold plaws_szHeap at h
  refine Wc.seq ?_
  refine Wc.region [] [] [1, 2] [2] [] ⟨[(1, (.v (.int .i64 b14_), [])), (2, (.ptr 2 0, []))], [(2, .cells [.sl (List.map GCell.c e13_.gCells), .sl (List.map cI.i64 e13_.gTrail)] [])], []⟩ _ (by kernel_rfl) .nil ?_
  refine Wc.seq ?_
  obtain ⟨b15_, h11, h⟩ := obind h
  refine Wc.region [{}, {}, {}, { r := some (.v (.int .i64 b15_) []) }] [] [1, 2] [2] [] ⟨[(1, (.v (.int .i64 b15_), [])), (2, (.ptr 2 0, []))], [(2, .cells [.sl (List.map GCell.c e13_.gCells), .sl (List.map cI.i64 e13_.gTrail)] [])], []⟩ _ (by kernel_rfl) (.cons (claws_szCellS h11) .nil) ?_
  refine Wc.seq ?_
  refine Wc.seq ?_
  refine Wc.region [] [] [1, 2, 10] [2] [] ⟨[(1, (.v (.int .i64 b15_), [])), (2, (.ptr 2 0, [])), (10, (.v (.bool (decide (b15_ < 0))), []))], [(2, .cells [.sl (List.map GCell.c e13_.gCells), .sl (List.map cI.i64 e13_.gTrail)] [])], []⟩ _ (by kernel_rfl) .nil ?_
  rcases oif h with ⟨h12, h⟩ | ⟨h12, h⟩
  · refine Wc.condT h12 (by kernel_rfl) ?_
    refine Wc.seq ?_
    refine Wc.region [] [] [4] [] [] ⟨[(4, (.v (.int .i64 (-1)), []))], [], []⟩ _ (by kernel_rfl) .nil ?_
    refine Wc.ret ?_
    obtain rfl := Option.some.inj h
    exact ⟨.inl rfl, by kernel_rfl, by kernel_rfl⟩
  · refine Wc.condF h12 (by kernel_rfl) ?_
    refine Wc.fix (st' := ⟨[(1, (.v (.int .i64 b15_), [])), (2, (.ptr 2 0, []))], [(2, .cells [.sl (List.map GCell.c e13_.gCells), .sl (List.map cI.i64 e13_.gTrail)] [])], []⟩) [] [1, 2] [2] [] (by kernel_rfl) ?_
    refine Wc.skip ?_
    refine Wc.seq ?_
    obtain ⟨b16_, h13, h⟩ := obind h
    refine Wc.region [{}, {}, {}, { r := some (.v (.int .i64 b16_) []) }] [] [1] [] [] ⟨[(1, (.v (.int .i64 b16_), []))], [], []⟩ _ (by kernel_rfl) (.cons (claws_szIntS h13) .nil) ?_
    refine Wc.seq ?_
    refine Wc.seq ?_
    refine Wc.region [] [] [1, 16] [] [] ⟨[(1, (.v (.int .i64 b16_), [])), (16, (.v (.bool (decide (b16_ < 0))), []))], [], []⟩ _ (by kernel_rfl) .nil ?_
    rcases oif h with ⟨h14, h⟩ | ⟨h14, h⟩
    · refine Wc.condT h14 (by kernel_rfl) ?_
      refine Wc.seq ?_
      refine Wc.region [] [] [4] [] [] ⟨[(4, (.v (.int .i64 (-1)), []))], [], []⟩ _ (by kernel_rfl) .nil ?_
      refine Wc.ret ?_
      obtain rfl := Option.some.inj h
      exact ⟨.inl rfl, by kernel_rfl, by kernel_rfl⟩
    · refine Wc.condF h14 (by kernel_rfl) ?_
      refine Wc.fix (st' := ⟨[(1, (.v (.int .i64 b16_), []))], [], []⟩) [] [1] [] [] (by kernel_rfl) ?_
      refine Wc.skip ?_
      refine Wc.seq ?_
      refine Wc.region [] [] [4] [] [] ⟨[(4, (.v (.int .i64 b16_), []))], [], []⟩ _ (by kernel_rfl) .nil ?_
      refine Wc.ret ?_
      obtain rfl := Option.some.inj h
      exact ⟨.inl rfl, by kernel_rfl, by kernel_rfl⟩

/-- spec.l01In -/
def pspec_l01In (k : Nat) (b17_ : Int) (b18_ : Int) (b19_ : Int) : Option Bool :=
  if (decide (b17_ ≥ b18_)) = true then
    some (decide (b17_ ≤ b19_))
  else
    some false
theorem cspec_l01In {k : Nat} {b17_ : Int} {b18_ : Int} {b19_ : Int} {r : Bool} (h : pspec_l01In k b17_ b18_ b19_ = some r) : FnO Try.prog 100 [.v (.int .i64 b17_) [], .v (.int .i64 b18_) [], .v (.int .i64 b19_) []] (.v (.bool r) []) [] := by
  refine FnO.of Try.func100 (rfl : Try.f100.body = some _) (Nat.le_of_ble_eq_true (by kernel_rfl)) (Nat.le_of_ble_eq_true (by kernel_rfl)) ?_
  intro w0 X0 Fin pv0 pb
  unfold pspec_l01In at h
  refine Wc.seq ?_
  refine Wc.region [] [] [0, 1, 2] [] [] ⟨[(0, (.v (.int .i64 b17_), [])), (1, (.v (.int .i64 b18_), [])), (2, (.v (.int .i64 b19_), []))], [], []⟩ _ (by kernel_rfl) .nil ?_
  refine Wc.seq ?_
  rcases oif h with ⟨h15, h⟩ | ⟨h15, h⟩
  · refine Wc.region [{}, {}, {}, { re := some (.bool true) }] [] [6] [] [] ⟨[(6, (.v (.bool (decide (b17_ ≤ b19_))), []))], [], []⟩ _ (by kernel_rfl) (.cons (congrArg AV.bool h15) .nil) ?_
    refine Wc.ret ?_
    obtain rfl := Option.some.inj h
    exact ⟨.inl rfl, by kernel_rfl, by kernel_rfl⟩
  · refine Wc.region [{}, {}, {}, { re := some (.bool false) }] [] [6] [] [] ⟨[(6, (.v (.bool false), []))], [], []⟩ _ (by kernel_rfl) (.cons (congrArg AV.bool h15) .nil) ?_
    refine Wc.ret ?_
    obtain rfl := Option.some.inj h
    exact ⟨.inl rfl, by kernel_rfl, by kernel_rfl⟩

def pspec_l13Heap_name_L1 (k : Nat) (b21_ : Int) : Nat → GL13Heap → Option (Out GL13Heap GL13Heap)
  | 0, _ => none
  | m + 1, f23_ =>
    if (decide ((f23_.gRefs.length : Int) ≤ b21_)) = true then
      if f23_.gRefs.length + [-1].length ≤ 1073741824 then
        pspec_l13Heap_name_L1 k b21_ m (GL13Heap.mk f23_.gCells f23_.gTrail (f23_.gRefs ++ [-1]) f23_.gPairs)
      else none
    else
      some (.done f23_)
/-- (*spec.l13Heap).name -/
def pspec_l13Heap_name (k : Nat) (f20_ : GL13Heap) (b21_ : Int) (b22_ : Int) : Option GL13Heap :=
  (pspec_l13Heap_name_L1 k b21_ k f20_).bind fun out1 => match out1 with
  | .ret r => some r
  | .done f24_ =>
    (at' f24_.gRefs b21_).bind fun b25_ =>
    if (decide (b25_ < 0)) = true then
      (at' f24_.gRefs b21_).bind fun b26_ =>
      some (GL13Heap.mk f24_.gCells f24_.gTrail (f24_.gRefs.set ((b21_).toNat) b22_) f24_.gPairs)
    else
      some f24_
theorem cspec_l13Heap_name {k : Nat} {f20_ : GL13Heap} {b21_ : Int} {b22_ : Int} {r : GL13Heap} (h : pspec_l13Heap_name k f20_ b21_ b22_ = some r) : FnO Try.prog 131 [.p [.slx, .slx, .slx, .int .i64 f20_.gPairs] [(0, .ex 110 false (List.map GCell.c f20_.gCells)), (1, .ex 3 false (List.map cI.i64 f20_.gTrail)), (2, .ex 3 false (List.map cI.i64 f20_.gRefs))], .v (.int .i64 b21_) [], .v (.int .i64 b22_) []] (.v (.tup []) []) [(0, .p [.slx, .slx, .slx, .int .i64 r.gPairs] [(0, .ex 110 false (List.map GCell.c r.gCells)), (1, .ex 3 false (List.map cI.i64 r.gTrail)), (2, .ex 3 false (List.map cI.i64 r.gRefs))])] := by
  refine FnO.of Try.func131 (rfl : Try.f131.body = some _) (Nat.le_of_ble_eq_true (by kernel_rfl)) (Nat.le_of_ble_eq_true (by kernel_rfl)) ?_
  intro w0 X0 Fin pv0 pb
  unfold pspec_l13Heap_name at h
  obtain ⟨out1, h16, h⟩ := obind h
  refine Wc.seqJ (fun st => ∃ (f24_ : GL13Heap), out1 = .done f24_ ∧ st = ⟨[(0, (.ptr 1000000 0, [])), (1, (.v (.int .i64 b21_), [])), (2, (.v (.int .i64 b22_), []))], [(1000000, .cells [.slx, .slx, .slx, .int .i64 f24_.gPairs] [(0, .ex 110 false (List.map GCell.c f24_.gCells)), (1, .ex 3 false (List.map cI.i64 f24_.gTrail)), (2, .ex 3 false (List.map cI.i64 f24_.gRefs))])], []⟩) ?_ ?_
  · refine Wc.block ?_
    refine Wc.loop (fun m st => ∃ (f23_ : GL13Heap), st = ⟨[(0, (.ptr 1000000 0, [])), (1, (.v (.int .i64 b21_), [])), (2, (.v (.int .i64 b22_), []))], [(1000000, .cells [.slx, .slx, .slx, .int .i64 f23_.gPairs] [(0, .ex 110 false (List.map GCell.c f23_.gCells)), (1, .ex 3 false (List.map cI.i64 f23_.gTrail)), (2, .ex 3 false (List.map cI.i64 f23_.gRefs))])], []⟩ ∧ pspec_l13Heap_name_L1 k b21_ m f23_ = some out1) ?_ k ⟨_, rfl, h16⟩
    rintro m st ⟨f23_, rfl, h16⟩
    cases m with
    | zero => exact (onone h16).elim
    | succ m =>
      refine Wc.seq ?_
      refine Wc.seq ?_
      refine Wc.region [{}, {}, {}, {}, { v := some (.int .i64 (f23_.gRefs.length : Int)) }] [] [0, 1, 2, 12] [1000000] [] ⟨[(0, (.ptr 1000000 0, [])), (1, (.v (.int .i64 b21_), [])), (2, (.v (.int .i64 b22_), [])), (12, (.v (.bool (decide ((f23_.gRefs.length : Int) ≤ b21_))), []))], [(1000000, .cells [.slx, .slx, .slx, .int .i64 f23_.gPairs] [(0, .ex 110 false (List.map GCell.c f23_.gCells)), (1, .ex 3 false (List.map cI.i64 f23_.gTrail)), (2, .ex 3 false (List.map cI.i64 f23_.gRefs))])], []⟩ _ (by kernel_rfl) (.cons (len_obl cI.i64 f23_.gRefs) .nil) ?_
      rcases oif h16 with ⟨h17, h16⟩ | ⟨h17, h16⟩
      · refine Wc.condT h17 (by kernel_rfl) ?_
        refine Wc.fix (st' := ⟨[(0, (.ptr 1000000 0, [])), (1, (.v (.int .i64 b21_), [])), (2, (.v (.int .i64 b22_), []))], [(1000000, .cells [.slx, .slx, .slx, .int .i64 f23_.gPairs] [(0, .ex 110 false (List.map GCell.c f23_.gCells)), (1, .ex 3 false (List.map cI.i64 f23_.gTrail)), (2, .ex 3 false (List.map cI.i64 f23_.gRefs))])], []⟩) [] [0, 1, 2] [1000000] [] (by kernel_rfl) ?_
        refine Wc.skip ?_
        refine Wc.block ?_
        obtain ⟨h18, h16⟩ := oguard h16
        refine Wc.region [{}, {}, {}, {}, { md := 1 }, { c := some (List.map cI.i64 [-1]) }, { c := some (List.map cI.i64 (f23_.gRefs ++ [-1])), tk := [17], md := 1 }, {}, {}, { tk := [19] }] [] [0, 1, 2] [1000000] [] ⟨[(0, (.ptr 1000000 0, [])), (1, (.v (.int .i64 b21_), [])), (2, (.v (.int .i64 b22_), []))], [(1000000, .cells [.slx, .slx, .slx, .int .i64 f23_.gPairs] [(0, .ex 110 false (List.map GCell.c f23_.gCells)), (1, .ex 3 false (List.map cI.i64 f23_.gTrail)), (2, .ex 3 false (List.map cI.i64 (f23_.gRefs ++ [-1])))])], []⟩ _ (by kernel_rfl) (.cons (cl_cons (c := cI.i64) (x := -1) rfl (cl_nil cI.i64)) (.cons (app_re2 cI.i64 f23_.gRefs [-1]) (.cons (app_leaf (c := cI.i64) (ys := [-1]) cI.i64_leaf) (.cons (app_obl2 (c := cI.i64) (xs := f23_.gRefs) (ys := [-1]) cI.i64_len h18) .nil)))) ?_
        exact ⟨_, Nat.lt_succ_self _, _, rfl, h16⟩
      · refine Wc.condF h17 (by kernel_rfl) ?_
        refine Wc.fix (st' := ⟨[(0, (.ptr 1000000 0, [])), (1, (.v (.int .i64 b21_), [])), (2, (.v (.int .i64 b22_), []))], [(1000000, .cells [.slx, .slx, .slx, .int .i64 f23_.gPairs] [(0, .ex 110 false (List.map GCell.c f23_.gCells)), (1, .ex 3 false (List.map cI.i64 f23_.gTrail)), (2, .ex 3 false (List.map cI.i64 f23_.gRefs))])], []⟩) [] [0, 1, 2] [1000000] [] (by kernel_rfl) ?_
        refine Wc.exit ?_
        obtain rfl := Option.some.inj h16
        exact ⟨_, rfl, rfl⟩
  · rintro st ⟨f24_, rfl, rfl⟩
    refine Wc.seq ?_
    obtain ⟨b25_, h19, h⟩ := obind h
    refine Wc.region [{}, {}, {}, {}, {}, {}, { v := some (.int .i64 b25_) }] [] [0, 1, 2, 29] [1000000] [] ⟨[(0, (.ptr 1000000 0, [])), (1, (.v (.int .i64 b21_), [])), (2, (.v (.int .i64 b22_), [])), (29, (.v (.bool (decide (b25_ < 0))), []))], [(1000000, .cells [.slx, .slx, .slx, .int .i64 f24_.gPairs] [(0, .ex 110 false (List.map GCell.c f24_.gCells)), (1, .ex 3 false (List.map cI.i64 f24_.gTrail)), (2, .ex 3 false (List.map cI.i64 f24_.gRefs))])], []⟩ _ (by kernel_rfl) (.cons (ix_obl (c := cI.i64) cI.i64_len h19) (.cons (el_obl (sz := 1) (off := 0) (s := 1) (ag := false) (v := .int .i64 b25_) (c := cI.i64) rfl (at'_spec h19).2 rfl (Nat.le_of_ble_eq_true rfl) rfl) .nil)) ?_
    rcases oif h with ⟨h20, h⟩ | ⟨h20, h⟩
    · refine Wc.condT h20 (by kernel_rfl) ?_
      obtain ⟨b26_, h21, h⟩ := obind h
      refine Wc.region [{}, {}, {}, {}, {}, {}, {}, { c := some (List.map cI.i64 (f24_.gRefs.set ((b21_).toNat) b22_)) }] [] [] [1000000] [] ⟨[], [(1000000, .cells [.slx, .slx, .slx, .int .i64 f24_.gPairs] [(0, .ex 110 false (List.map GCell.c f24_.gCells)), (1, .ex 3 false (List.map cI.i64 f24_.gTrail)), (2, .ex 3 false (List.map cI.i64 (f24_.gRefs.set ((b21_).toNat) b22_)))])], []⟩ _ (by kernel_rfl) (.cons (ix_obl (c := cI.i64) cI.i64_len h21) (.cons (mod_obl (off := 0) (new := [.int .i64 b22_]) (c := cI.i64) rfl rfl (at'_spec h21).2 rfl) (.cons (st_obl (sz := 1) (off := 0) (s := 1) (c := cI.i64) rfl (at'_spec h21).2 rfl (Nat.le_of_ble_eq_true rfl)) .nil))) ?_
      obtain rfl := Option.some.inj h
      exact ⟨(by first | exact .inl rfl | exact .inr rfl), by kernel_rfl, by kernel_rfl⟩
    · refine Wc.condF h20 (by kernel_rfl) ?_
      refine Wc.fix (st' := ⟨[], [(1000000, .cells [.slx, .slx, .slx, .int .i64 f24_.gPairs] [(0, .ex 110 false (List.map GCell.c f24_.gCells)), (1, .ex 3 false (List.map cI.i64 f24_.gTrail)), (2, .ex 3 false (List.map cI.i64 f24_.gRefs))])], []⟩) [] [] [1000000] [] (by kernel_rfl) ?_
      refine Wc.skip ?_
      obtain rfl := Option.some.inj h
      exact ⟨(by first | exact .inl rfl | exact .inr rfl), by kernel_rfl, by kernel_rfl⟩

def pspec_l13Of_J2 (k : Nat) (bk_ : Int → GL13Heap → Option (Out GL13Heap GL13Heap)) (e37_ : GHeap) (b38_ : Int) (f39_ : GL13Heap) (g41_ : Bool) : Option (Out GL13Heap GL13Heap) :=
  if g41_ = true then
    (at' e37_.gCells b38_).bind fun c42_ =>
    (pspec_l13Heap_name k f39_ c42_.gNum b38_).bind fun f43_ =>
    bk_ (wr.i64 (b38_ + 1)) f43_
  else
    bk_ (wr.i64 (b38_ + 1)) f39_
def pspec_l13Of_L1 (k : Nat) (e37_ : GHeap) : Nat → Int → GL13Heap → Option (Out GL13Heap GL13Heap)
  | 0, _, _ => none
  | m + 1, b38_, f39_ =>
    if (decide (b38_ < (e37_.gCells.length : Int))) = true then
      (at' e37_.gCells b38_).bind fun c44_ =>
      if (c44_.gKind == 1) = true then
        (at' e37_.gCells b38_).bind fun c45_ =>
        (pspec_l01In k c45_.gNum 0 200000).bind fun g46_ =>
        pspec_l13Of_J2 k (pspec_l13Of_L1 k e37_ m) e37_ b38_ f39_ g46_
      else
        pspec_l13Of_J2 k (pspec_l13Of_L1 k e37_ m) e37_ b38_ f39_ false
    else
      some (.done f39_)
/-- spec.l13Of -/
def pspec_l13Of (k : Nat) (e37_ : GHeap) : Option GL13Heap :=
  if ([] : List GCell).length + e37_.gCells.length ≤ 1073741824 then
    if ([] : List Int).length + e37_.gTrail.length ≤ 1073741824 then
      (pspec_l13Of_L1 k e37_ k 0 (GL13Heap.mk e37_.gCells e37_.gTrail [] 0)).bind fun out1 => match out1 with
      | .ret r => some r
      | .done f40_ =>
        some f40_
    else none
  else none
theorem cspec_l13Of {k : Nat} {e37_ : GHeap} {r : GL13Heap} (h : pspec_l13Of k e37_ = some r) : FnO Try.prog 112 [.v (.agg [.sl (List.map GCell.c e37_.gCells), .sl (List.map cI.i64 e37_.gTrail)]) []] (.p [.slx, .slx, .slx, .int .i64 r.gPairs] [(0, .ex 110 false (List.map GCell.c r.gCells)), (1, .ex 3 false (List.map cI.i64 r.gTrail)), (2, .ex 3 false (List.map cI.i64 r.gRefs))]) [] := by
  refine FnO.of Try.func112 (rfl : Try.f112.body = some _) (Nat.le_of_ble_eq_true (by kernel_rfl)) (Nat.le_of_ble_eq_true (by kernel_rfl)) ?_
  intro w0 X0 Fin pv0 pb
  unfold pspec_l13Of at h
  refine Wc.seq ?_
  refine Wc.region [] [] [1] [1] [] ⟨[(1, (.ptr 1 0, []))], [(1, .cells [.sl (List.map GCell.c e37_.gCells), .sl (List.map cI.i64 e37_.gTrail)] [])], []⟩ _ (by kernel_rfl) .nil ?_
  refine Wc.seq ?_
  obtain ⟨h33, h⟩ := oguard h
  obtain ⟨h34, h⟩ := oguard h
  refine Wc.draw hmix [{ c := some (List.map GCell.c []), md := 1 }, {}, {}, { c := some (List.map GCell.c e37_.gCells), tk := [5], md := 1 }, { c := some (List.map cI.i64 []), md := 1 }, {}, {}, { c := some (List.map cI.i64 e37_.gTrail), tk := [9], md := 1 }, { tk := [8, 12] }, { tk := [13] }] [.so 14] [1, 3] [1, 14] [] ⟨[(1, (.ptr 1 0, [])), (3, (.ptr 14 0, []))], [(1, .cells [.sl (List.map GCell.c e37_.gCells), .sl (List.map cI.i64 e37_.gTrail)] []), (14, .cells [.slx, .slx, .sl (List.map cI.i64 []), .int .i64 0] [(0, .ex 110 false (List.map GCell.c e37_.gCells)), (1, .ex 3 false (List.map cI.i64 e37_.gTrail)), (2, .app 3)])], []⟩ _ (by kernel_rfl) (fun X => by kernel_rfl) (.cons (cl_nil GCell.c) (.cons (app_re0 GCell.c e37_.gCells) (.cons (app_leaf (c := GCell.c) (ys := e37_.gCells) GCell.c_leaf) (.cons (app_obl2 (c := GCell.c) (xs := []) (ys := e37_.gCells) GCell.c_len h33) (.cons (cl_nil cI.i64) (.cons (app_re0 cI.i64 e37_.gTrail) (.cons (app_leaf (c := cI.i64) (ys := e37_.gTrail) cI.i64_leaf) (.cons (app_obl2 (c := cI.i64) (xs := []) (ys := e37_.gTrail) cI.i64_len h34) .nil)))))))) ?_
  refine Wc.seq ?_
  refine Wc.seq ?_
  refine Wc.region [] [] [1, 3, 4] [1, 14] [] ⟨[(1, (.ptr 1 0, [])), (3, (.ptr 14 0, [])), (4, (.v (.int .i64 0), []))], [(1, .cells [.sl (List.map GCell.c e37_.gCells), .sl (List.map cI.i64 e37_.gTrail)] []), (14, .cells [.slx, .slx, .sl (List.map cI.i64 []), .int .i64 0] [(0, .ex 110 false (List.map GCell.c e37_.gCells)), (1, .ex 3 false (List.map cI.i64 e37_.gTrail)), (2, .app 3)])], []⟩ _ (by kernel_rfl) .nil ?_
  obtain ⟨out1, h35, h⟩ := obind h
  refine Wc.lastJ (fun st => ∃ (f40_ : GL13Heap), out1 = .done f40_ ∧ st = ⟨[(3, (.ptr 14 0, []))], [(14, .cells [.slx, .slx, .slx, .int .i64 f40_.gPairs] [(0, .ex 110 false (List.map GCell.c f40_.gCells)), (1, .ex 3 false (List.map cI.i64 f40_.gTrail)), (2, .ex 3 false (List.map cI.i64 f40_.gRefs))])], []⟩) ?_ ?_
  · refine Wc.block ?_
    refine Wc.fix (st' := ⟨[(1, (.ptr 1 0, [])), (3, (.ptr 14 0, [])), (4, (.v (.int .i64 0), []))], [(1, .cells [.sl (List.map GCell.c e37_.gCells), .sl (List.map cI.i64 e37_.gTrail)] []), (14, .cells [.slx, .slx, .slx, .int .i64 0] [(0, .ex 110 false (List.map GCell.c e37_.gCells)), (1, .ex 3 false (List.map cI.i64 e37_.gTrail)), (2, .ex 3 false (List.map cI.i64 []))])], []⟩) [.ow (.b 14 2) false] [1, 3, 4] [1, 14] [] (by kernel_rfl) ?_
    refine Wc.loop (fun m st => ∃ (b38_ : Int) (f39_ : GL13Heap), st = ⟨[(1, (.ptr 1 0, [])), (3, (.ptr 14 0, [])), (4, (.v (.int .i64 b38_), []))], [(1, .cells [.sl (List.map GCell.c e37_.gCells), .sl (List.map cI.i64 e37_.gTrail)] []), (14, .cells [.slx, .slx, .slx, .int .i64 f39_.gPairs] [(0, .ex 110 false (List.map GCell.c f39_.gCells)), (1, .ex 3 false (List.map cI.i64 f39_.gTrail)), (2, .ex 3 false (List.map cI.i64 f39_.gRefs))])], []⟩ ∧ pspec_l13Of_L1 k e37_ m b38_ f39_ = some out1) ?_ k ⟨_, _, rfl, h35⟩
    rintro m st ⟨b38_, f39_, rfl, h35⟩
    cases m with
    | zero => exact (onone h35).elim
    | succ m =>
      refine Wc.seq ?_
      refine Wc.seq ?_
      refine Wc.region [{}, {}, {}, { v := some (.int .i64 (e37_.gCells.length : Int)) }] [] [1, 3, 4, 19] [1, 14] [] ⟨[(1, (.ptr 1 0, [])), (3, (.ptr 14 0, [])), (4, (.v (.int .i64 b38_), [])), (19, (.v (.bool (decide (b38_ < (e37_.gCells.length : Int)))), []))], [(1, .cells [.sl (List.map GCell.c e37_.gCells), .sl (List.map cI.i64 e37_.gTrail)] []), (14, .cells [.slx, .slx, .slx, .int .i64 f39_.gPairs] [(0, .ex 110 false (List.map GCell.c f39_.gCells)), (1, .ex 3 false (List.map cI.i64 f39_.gTrail)), (2, .ex 3 false (List.map cI.i64 f39_.gRefs))])], []⟩ _ (by kernel_rfl) (.cons (len_obl GCell.c e37_.gCells) .nil) ?_
      rcases oif h35 with ⟨h36, h35⟩ | ⟨h36, h35⟩
      · refine Wc.condT h36 (by kernel_rfl) ?_
        refine Wc.fix (st' := ⟨[(1, (.ptr 1 0, [])), (3, (.ptr 14 0, [])), (4, (.v (.int .i64 b38_), []))], [(1, .cells [.sl (List.map GCell.c e37_.gCells), .sl (List.map cI.i64 e37_.gTrail)] []), (14, .cells [.slx, .slx, .slx, .int .i64 f39_.gPairs] [(0, .ex 110 false (List.map GCell.c f39_.gCells)), (1, .ex 3 false (List.map cI.i64 f39_.gTrail)), (2, .ex 3 false (List.map cI.i64 f39_.gRefs))])], []⟩) [] [1, 3, 4] [1, 14] [] (by kernel_rfl) ?_
        refine Wc.skip ?_
        refine Wc.seq ?_
        refine Wc.block ?_
        refine Wc.seqJ (fun st => ∃ (g41_ : Bool), st = ⟨[(1, (.ptr 1 0, [])), (3, (.ptr 14 0, [])), (4, (.v (.int .i64 b38_), [])), (37, (.v (.bool g41_), []))], [(1, .cells [.sl (List.map GCell.c e37_.gCells), .sl (List.map cI.i64 e37_.gTrail)] []), (14, .cells [.slx, .slx, .slx, .int .i64 f39_.gPairs] [(0, .ex 110 false (List.map GCell.c f39_.gCells)), (1, .ex 3 false (List.map cI.i64 f39_.gTrail)), (2, .ex 3 false (List.map cI.i64 f39_.gRefs))])], []⟩ ∧ pspec_l13Of_J2 k (pspec_l13Of_L1 k e37_ m) e37_ b38_ f39_ g41_ = some out1) ?_ ?_
        · obtain ⟨c44_, h40, h35⟩ := obind h35
          rcases oif h35 with ⟨h41, h35⟩ | ⟨h41, h35⟩
          · obtain ⟨c45_, h42, h35⟩ := obind h35
            obtain ⟨g46_, h43, h35⟩ := obind h35
            refine Wc.region [{}, {}, {}, { v := some (.vptr [.int .i64 c44_.gKind, .str c44_.gName, .int .i64 c44_.gNum, .int .i64 c44_.gTo, .sl (List.map cI.i64 c44_.gKids)]) }, {}, {}, {}, { re := some (.bool true) }, {}, {}, {}, { v := some (.vptr [.int .i64 c45_.gKind, .str c45_.gName, .int .i64 c45_.gNum, .int .i64 c45_.gTo, .sl (List.map cI.i64 c45_.gKids)]) }, {}, {}, { r := some (.v (.bool g46_) []) }] [] [1, 3, 4, 37] [1, 14] [] ⟨[(1, (.ptr 1 0, [])), (3, (.ptr 14 0, [])), (4, (.v (.int .i64 b38_), [])), (37, (.v (.bool g46_), []))], [(1, .cells [.sl (List.map GCell.c e37_.gCells), .sl (List.map cI.i64 e37_.gTrail)] []), (14, .cells [.slx, .slx, .slx, .int .i64 f39_.gPairs] [(0, .ex 110 false (List.map GCell.c f39_.gCells)), (1, .ex 3 false (List.map cI.i64 f39_.gTrail)), (2, .ex 3 false (List.map cI.i64 f39_.gRefs))])], []⟩ _ (by kernel_rfl) (.cons (at_obl (c := GCell.c) (GCell.c_eq c44_) GCell.c_len h40) (.cons (len_ok 1 [.int .i64 c44_.gKind, .str c44_.gName, .int .i64 c44_.gNum, .int .i64 c44_.gTo, .sl (List.map cI.i64 c44_.gKids)]) (.cons (congrArg AV.bool h41) (.cons (at_obl (c := GCell.c) (GCell.c_eq c45_) GCell.c_len h42) (.cons (len_ok 1 [.int .i64 c45_.gNum, .int .i64 c45_.gTo, .sl (List.map cI.i64 c45_.gKids)]) (.cons (cspec_l01In h43) .nil)))))) ?_
            exact ⟨_, rfl, h35⟩
          · refine Wc.region [{}, {}, {}, { v := some (.vptr [.int .i64 c44_.gKind, .str c44_.gName, .int .i64 c44_.gNum, .int .i64 c44_.gTo, .sl (List.map cI.i64 c44_.gKids)]) }, {}, {}, {}, { re := some (.bool false) }] [] [1, 3, 4, 37] [1, 14] [] ⟨[(1, (.ptr 1 0, [])), (3, (.ptr 14 0, [])), (4, (.v (.int .i64 b38_), [])), (37, (.v (.bool false), []))], [(1, .cells [.sl (List.map GCell.c e37_.gCells), .sl (List.map cI.i64 e37_.gTrail)] []), (14, .cells [.slx, .slx, .slx, .int .i64 f39_.gPairs] [(0, .ex 110 false (List.map GCell.c f39_.gCells)), (1, .ex 3 false (List.map cI.i64 f39_.gTrail)), (2, .ex 3 false (List.map cI.i64 f39_.gRefs))])], []⟩ _ (by kernel_rfl) (.cons (at_obl (c := GCell.c) (GCell.c_eq c44_) GCell.c_len h40) (.cons (len_ok 1 [.int .i64 c44_.gKind, .str c44_.gName, .int .i64 c44_.gNum, .int .i64 c44_.gTo, .sl (List.map cI.i64 c44_.gKids)]) (.cons (congrArg AV.bool h41) .nil))) ?_
            exact ⟨_, rfl, h35⟩
        · rintro st ⟨g41_, rfl, h35⟩
          rcases oif h35 with ⟨h37, h35⟩ | ⟨h37, h35⟩
          · refine Wc.condT h37 (by kernel_rfl) ?_
            obtain ⟨c42_, h38, h35⟩ := obind h35
            obtain ⟨f43_, h39, h35⟩ := obind h35
            refine Wc.region [{}, {}, {}, {}, { v := some (.vptr [.int .i64 c42_.gKind, .str c42_.gName, .int .i64 c42_.gNum, .int .i64 c42_.gTo, .sl (List.map cI.i64 c42_.gKids)]) }, {}, {}, {}, { r := some (.v (.tup []) []), outs := [(0, .p [.slx, .slx, .slx, .int .i64 f43_.gPairs] [(0, .ex 110 false (List.map GCell.c f43_.gCells)), (1, .ex 3 false (List.map cI.i64 f43_.gTrail)), (2, .ex 3 false (List.map cI.i64 f43_.gRefs))])] }] [] [1, 3, 4] [1, 14] [] ⟨[(1, (.ptr 1 0, [])), (3, (.ptr 14 0, [])), (4, (.v (.int .i64 b38_), []))], [(1, .cells [.sl (List.map GCell.c e37_.gCells), .sl (List.map cI.i64 e37_.gTrail)] []), (14, .cells [.slx, .slx, .slx, .int .i64 f43_.gPairs] [(0, .ex 110 false (List.map GCell.c f43_.gCells)), (1, .ex 3 false (List.map cI.i64 f43_.gTrail)), (2, .ex 3 false (List.map cI.i64 f43_.gRefs))])], []⟩ _ (by kernel_rfl) (.cons (at_obl (c := GCell.c) (GCell.c_eq c42_) GCell.c_len h38) (.cons (len_ok 1 [.int .i64 c42_.gNum, .int .i64 c42_.gTo, .sl (List.map cI.i64 c42_.gKids)]) (.cons (cspec_l13Heap_name h39) .nil))) ?_
            refine Wc.region [] [] [1, 3, 4] [1, 14] [] ⟨[(1, (.ptr 1 0, [])), (3, (.ptr 14 0, [])), (4, (.v (.int .i64 (wr.i64 (b38_ + 1))), []))], [(1, .cells [.sl (List.map GCell.c e37_.gCells), .sl (List.map cI.i64 e37_.gTrail)] []), (14, .cells [.slx, .slx, .slx, .int .i64 f43_.gPairs] [(0, .ex 110 false (List.map GCell.c f43_.gCells)), (1, .ex 3 false (List.map cI.i64 f43_.gTrail)), (2, .ex 3 false (List.map cI.i64 f43_.gRefs))])], []⟩ _ (by kernel_rfl) .nil ?_
            exact ⟨_, Nat.lt_succ_self _, _, _, rfl, h35⟩
          · refine Wc.condF h37 (by kernel_rfl) ?_
            refine Wc.fix (st' := ⟨[(1, (.ptr 1 0, [])), (3, (.ptr 14 0, [])), (4, (.v (.int .i64 b38_), []))], [(1, .cells [.sl (List.map GCell.c e37_.gCells), .sl (List.map cI.i64 e37_.gTrail)] []), (14, .cells [.slx, .slx, .slx, .int .i64 f39_.gPairs] [(0, .ex 110 false (List.map GCell.c f39_.gCells)), (1, .ex 3 false (List.map cI.i64 f39_.gTrail)), (2, .ex 3 false (List.map cI.i64 f39_.gRefs))])], []⟩) [] [1, 3, 4] [1, 14] [] (by kernel_rfl) ?_
            refine Wc.skip ?_
            refine Wc.region [] [] [1, 3, 4] [1, 14] [] ⟨[(1, (.ptr 1 0, [])), (3, (.ptr 14 0, [])), (4, (.v (.int .i64 (wr.i64 (b38_ + 1))), []))], [(1, .cells [.sl (List.map GCell.c e37_.gCells), .sl (List.map cI.i64 e37_.gTrail)] []), (14, .cells [.slx, .slx, .slx, .int .i64 f39_.gPairs] [(0, .ex 110 false (List.map GCell.c f39_.gCells)), (1, .ex 3 false (List.map cI.i64 f39_.gTrail)), (2, .ex 3 false (List.map cI.i64 f39_.gRefs))])], []⟩ _ (by kernel_rfl) .nil ?_
            exact ⟨_, Nat.lt_succ_self _, _, _, rfl, h35⟩
      · refine Wc.condF h36 (by kernel_rfl) ?_
        refine Wc.fix (st' := ⟨[(3, (.ptr 14 0, []))], [(14, .cells [.slx, .slx, .slx, .int .i64 f39_.gPairs] [(0, .ex 110 false (List.map GCell.c f39_.gCells)), (1, .ex 3 false (List.map cI.i64 f39_.gTrail)), (2, .ex 3 false (List.map cI.i64 f39_.gRefs))])], []⟩) [] [3] [14] [] (by kernel_rfl) ?_
        refine Wc.exit ?_
        obtain rfl := Option.some.inj h35
        exact ⟨_, rfl, rfl⟩
  · rintro st ⟨f40_, rfl, rfl⟩
    refine Wc.seq ?_
    refine Wc.region [] [] [2] [14] [] ⟨[(2, (.ptr 14 0, []))], [(14, .cells [.slx, .slx, .slx, .int .i64 f40_.gPairs] [(0, .ex 110 false (List.map GCell.c f40_.gCells)), (1, .ex 3 false (List.map cI.i64 f40_.gTrail)), (2, .ex 3 false (List.map cI.i64 f40_.gRefs))])], []⟩ _ (by kernel_rfl) .nil ?_
    refine Wc.ret ?_
    obtain rfl := Option.some.inj h
    exact ⟨.inl rfl, by kernel_rfl, by kernel_rfl⟩

def pspec_l13Follow_L1 (k : Nat) (d47_ : List GCell) : Nat → Int → Int → Option (Out Int Unit)
  | 0, _, _ => none
  | m + 1, b49_, b50_ =>
    if (decide (b50_ ≤ (d47_.length : Int))) = true then
      (pspec_l01In k b49_ 0 (wr.i64 ((d47_.length : Int) - 1))).bind fun g51_ =>
      if (!g51_) = true then
        some (.ret (-1))
      else
        (at' d47_ b49_).bind fun c52_ =>
        if (c52_.gKind != 1) = true then
          some (.ret b49_)
        else
          (at' d47_ b49_).bind fun c53_ =>
          if (decide (c53_.gTo < 0)) = true then
            some (.ret b49_)
          else
            (at' d47_ b49_).bind fun c54_ =>
            pspec_l13Follow_L1 k d47_ m c54_.gTo (wr.i64 (b50_ + 1))
    else
      some (.done ())
/-- spec.l13Follow -/
def pspec_l13Follow (k : Nat) (d47_ : List GCell) (b48_ : Int) : Option Int :=
  (pspec_l13Follow_L1 k d47_ k b48_ 0).bind fun out1 => match out1 with
  | .ret r => some r
  | .done () =>
    some (-1)
theorem cspec_l13Follow {k : Nat} {d47_ : List GCell} {b48_ : Int} {r : Int} (h : pspec_l13Follow k d47_ b48_ = some r) : FnO Try.prog 133 [.v (.sl (List.map GCell.c d47_)) [], .v (.int .i64 b48_) []] (.v (.int .i64 r) []) [] := by
  refine FnO.of Try.func133 (rfl : Try.f133.body = some _) (Nat.le_of_ble_eq_true (by kernel_rfl)) (Nat.le_of_ble_eq_true (by kernel_rfl)) ?_
  intro w0 X0 Fin pv0 pb
  unfold pspec_l13Follow at h
  refine Wc.seq ?_
  refine Wc.region [] [] [0, 1] [] [] ⟨[(0, (.v (.sl (List.map GCell.c d47_)), [])), (1, (.v (.int .i64 b48_), []))], [], []⟩ _ (by kernel_rfl) .nil ?_
  refine Wc.seq ?_
  refine Wc.seq ?_
  refine Wc.region [] [] [0, 1, 5] [] [] ⟨[(0, (.v (.sl (List.map GCell.c d47_)), [])), (1, (.v (.int .i64 b48_), [])), (5, (.v (.int .i64 0), []))], [], []⟩ _ (by kernel_rfl) .nil ?_
  obtain ⟨out1, h44, h⟩ := obind h
  refine Wc.lastJ (fun st => out1 = .done () ∧ st = ⟨[], [], []⟩) ?_ ?_
  · refine Wc.block ?_
    refine Wc.loop (fun m st => ∃ (b49_ : Int) (b50_ : Int), st = ⟨[(0, (.v (.sl (List.map GCell.c d47_)), [])), (1, (.v (.int .i64 b49_), [])), (5, (.v (.int .i64 b50_), []))], [], []⟩ ∧ pspec_l13Follow_L1 k d47_ m b49_ b50_ = some out1) ?_ k ⟨_, _, rfl, h44⟩
    rintro m st ⟨b49_, b50_, rfl, h44⟩
    cases m with
    | zero => exact (onone h44).elim
    | succ m =>
      refine Wc.seq ?_
      refine Wc.seq ?_
      refine Wc.region [{}, {}, { v := some (.int .i64 (d47_.length : Int)) }] [] [0, 1, 5, 9] [] [] ⟨[(0, (.v (.sl (List.map GCell.c d47_)), [])), (1, (.v (.int .i64 b49_), [])), (5, (.v (.int .i64 b50_), [])), (9, (.v (.bool (decide (b50_ ≤ (d47_.length : Int)))), []))], [], []⟩ _ (by kernel_rfl) (.cons (len_obl GCell.c d47_) .nil) ?_
      rcases oif h44 with ⟨h45, h44⟩ | ⟨h45, h44⟩
      · refine Wc.condT h45 (by kernel_rfl) ?_
        refine Wc.fix (st' := ⟨[(0, (.v (.sl (List.map GCell.c d47_)), [])), (1, (.v (.int .i64 b49_), [])), (5, (.v (.int .i64 b50_), []))], [], []⟩) [] [0, 1, 5] [] [] (by kernel_rfl) ?_
        refine Wc.skip ?_
        refine Wc.seq ?_
        refine Wc.block ?_
        refine Wc.seq ?_
        refine Wc.seq ?_
        obtain ⟨g51_, h46, h44⟩ := obind h44
        refine Wc.region [{}, {}, { v := some (.int .i64 (d47_.length : Int)) }, {}, { r := some (.v (.bool g51_) []) }] [] [0, 1, 5, 17] [] [] ⟨[(0, (.v (.sl (List.map GCell.c d47_)), [])), (1, (.v (.int .i64 b49_), [])), (5, (.v (.int .i64 b50_), [])), (17, (.v (.bool (!g51_)), []))], [], []⟩ _ (by kernel_rfl) (.cons (len_obl GCell.c d47_) (.cons (cspec_l01In h46) .nil)) ?_
        rcases oif h44 with ⟨h47, h44⟩ | ⟨h47, h44⟩
        · refine Wc.condT h47 (by kernel_rfl) ?_
          refine Wc.seq ?_
          refine Wc.region [] [] [4] [] [] ⟨[(4, (.v (.int .i64 (-1)), []))], [], []⟩ _ (by kernel_rfl) .nil ?_
          refine Wc.ret ?_
          obtain rfl := Option.some.inj h44
          obtain rfl := Option.some.inj h
          exact ⟨.inl rfl, by kernel_rfl, by kernel_rfl⟩
        · refine Wc.condF h47 (by kernel_rfl) ?_
          refine Wc.fix (st' := ⟨[(0, (.v (.sl (List.map GCell.c d47_)), [])), (1, (.v (.int .i64 b49_), [])), (5, (.v (.int .i64 b50_), []))], [], []⟩) [] [0, 1, 5] [] [] (by kernel_rfl) ?_
          refine Wc.skip ?_
          refine Wc.seq ?_
          refine Wc.seq ?_
          obtain ⟨c52_, h48, h44⟩ := obind h44
          rcases oif h44 with ⟨h49, h44⟩ | ⟨h49, h44⟩
          · refine Wc.region [{}, {}, { v := some (.vptr [.int .i64 c52_.gKind, .str c52_.gName, .int .i64 c52_.gNum, .int .i64 c52_.gTo, .sl (List.map cI.i64 c52_.gKids)]) }, {}, {}, {}, { re := some (.bool true) }] [] [0, 1, 5, 31] [] [] ⟨[(0, (.v (.sl (List.map GCell.c d47_)), [])), (1, (.v (.int .i64 b49_), [])), (5, (.v (.int .i64 b50_), [])), (31, (.v (.bool true), []))], [], []⟩ _ (by kernel_rfl) (.cons (at_obl (c := GCell.c) (GCell.c_eq c52_) GCell.c_len h48) (.cons (len_ok 1 [.int .i64 c52_.gKind, .str c52_.gName, .int .i64 c52_.gNum, .int .i64 c52_.gTo, .sl (List.map cI.i64 c52_.gKids)]) (.cons (congrArg AV.bool h49) .nil))) ?_
            refine Wc.condT rfl (by kernel_rfl) ?_
            refine Wc.seq ?_
            refine Wc.region [] [] [4] [] [] ⟨[(4, (.v (.int .i64 b49_), []))], [], []⟩ _ (by kernel_rfl) .nil ?_
            refine Wc.ret ?_
            obtain rfl := Option.some.inj h44
            obtain rfl := Option.some.inj h
            exact ⟨.inl rfl, by kernel_rfl, by kernel_rfl⟩
          · obtain ⟨c53_, h50, h44⟩ := obind h44
            refine Wc.region [{}, {}, { v := some (.vptr [.int .i64 c52_.gKind, .str c52_.gName, .int .i64 c52_.gNum, .int .i64 c52_.gTo, .sl (List.map cI.i64 c52_.gKids)]) }, {}, {}, {}, { re := some (.bool false) }, {}, {}, { v := some (.vptr [.int .i64 c53_.gKind, .str c53_.gName, .int .i64 c53_.gNum, .int .i64 c53_.gTo, .sl (List.map cI.i64 c53_.gKids)]) }] [] [0, 1, 5, 31] [] [] ⟨[(0, (.v (.sl (List.map GCell.c d47_)), [])), (1, (.v (.int .i64 b49_), [])), (5, (.v (.int .i64 b50_), [])), (31, (.v (.bool (decide (c53_.gTo < 0))), []))], [], []⟩ _ (by kernel_rfl) (.cons (at_obl (c := GCell.c) (GCell.c_eq c52_) GCell.c_len h48) (.cons (len_ok 1 [.int .i64 c52_.gKind, .str c52_.gName, .int .i64 c52_.gNum, .int .i64 c52_.gTo, .sl (List.map cI.i64 c52_.gKids)]) (.cons (congrArg AV.bool h49) (.cons (at_obl (c := GCell.c) (GCell.c_eq c53_) GCell.c_len h50) (.cons (len_ok 1 [.int .i64 c53_.gTo, .sl (List.map cI.i64 c53_.gKids)]) .nil))))) ?_
            rcases oif h44 with ⟨h51, h44⟩ | ⟨h51, h44⟩
            · refine Wc.condT h51 (by kernel_rfl) ?_
              refine Wc.seq ?_
              refine Wc.region [] [] [4] [] [] ⟨[(4, (.v (.int .i64 b49_), []))], [], []⟩ _ (by kernel_rfl) .nil ?_
              refine Wc.ret ?_
              obtain rfl := Option.some.inj h44
              obtain rfl := Option.some.inj h
              exact ⟨.inl rfl, by kernel_rfl, by kernel_rfl⟩
            · refine Wc.condF h51 (by kernel_rfl) ?_
              refine Wc.fix (st' := ⟨[(0, (.v (.sl (List.map GCell.c d47_)), [])), (1, (.v (.int .i64 b49_), [])), (5, (.v (.int .i64 b50_), []))], [], []⟩) [] [0, 1, 5] [] [] (by kernel_rfl) ?_
              refine Wc.skip ?_
              obtain ⟨c54_, h52, h44⟩ := obind h44
              refine Wc.region [{}, {}, { v := some (.vptr [.int .i64 c54_.gKind, .str c54_.gName, .int .i64 c54_.gNum, .int .i64 c54_.gTo, .sl (List.map cI.i64 c54_.gKids)]) }] [] [0, 1, 5] [] [] ⟨[(0, (.v (.sl (List.map GCell.c d47_)), [])), (1, (.v (.int .i64 c54_.gTo), [])), (5, (.v (.int .i64 b50_), []))], [], []⟩ _ (by kernel_rfl) (.cons (at_obl (c := GCell.c) (GCell.c_eq c54_) GCell.c_len h52) (.cons (len_ok 1 [.int .i64 c54_.gTo, .sl (List.map cI.i64 c54_.gKids)]) .nil)) ?_
              refine Wc.region [] [] [0, 1, 5] [] [] ⟨[(0, (.v (.sl (List.map GCell.c d47_)), [])), (1, (.v (.int .i64 c54_.gTo), [])), (5, (.v (.int .i64 (wr.i64 (b50_ + 1))), []))], [], []⟩ _ (by kernel_rfl) .nil ?_
              exact ⟨_, Nat.lt_succ_self _, _, _, rfl, h44⟩
      · refine Wc.condF h45 (by kernel_rfl) ?_
        refine Wc.fix (st' := ⟨[], [], []⟩) [] [] [] [] (by kernel_rfl) ?_
        refine Wc.exit ?_
        obtain rfl := Option.some.inj h44
        exact ⟨rfl, rfl⟩
  · rintro st ⟨rfl, rfl⟩
    refine Wc.seq ?_
    refine Wc.region [] [] [4] [] [] ⟨[(4, (.v (.int .i64 (-1)), []))], [], []⟩ _ (by kernel_rfl) .nil ?_
    refine Wc.ret ?_
    obtain rfl := Option.some.inj h
    exact ⟨.inl rfl, by kernel_rfl, by kernel_rfl⟩

/-- spec.FollowCell -/
def pspec_FollowCell (k : Nat) (e55_ : GHeap) (b56_ : Int) : Option Int :=
  (pspec_l13Follow k e55_.gCells b56_).bind fun b57_ =>
  some b57_
theorem cspec_FollowCell {k : Nat} {e55_ : GHeap} {b56_ : Int} {r : Int} (h : pspec_FollowCell k e55_ b56_ = some r) : FnO Try.prog 132 [.v (.agg [.sl (List.map GCell.c e55_.gCells), .sl (List.map cI.i64 e55_.gTrail)]) [], .v (.int .i64 b56_) []] (.v (.int .i64 r) []) [] := by
  refine FnO.of Try.func132 (rfl : Try.f132.body = some _) (Nat.le_of_ble_eq_true (by kernel_rfl)) (Nat.le_of_ble_eq_true (by kernel_rfl)) ?_
  intro w0 X0 Fin pv0 pb
  unfold pspec_FollowCell at h
  refine Wc.seq ?_
  refine Wc.region [] [] [1, 2] [2] [] ⟨[(1, (.v (.int .i64 b56_), [])), (2, (.ptr 2 0, []))], [(2, .cells [.sl (List.map GCell.c e55_.gCells), .sl (List.map cI.i64 e55_.gTrail)] [])], []⟩ _ (by kernel_rfl) .nil ?_
  refine Wc.seq ?_
  obtain ⟨b57_, h53, h⟩ := obind h
  refine Wc.region [{}, {}, {}, { r := some (.v (.int .i64 b57_) []) }] [] [4] [] [] ⟨[(4, (.v (.int .i64 b57_), []))], [], []⟩ _ (by kernel_rfl) (.cons (cspec_l13Follow h53) .nil) ?_
  refine Wc.ret ?_
  obtain rfl := Option.some.inj h
  exact ⟨.inl rfl, by kernel_rfl, by kernel_rfl⟩

def pspec_HeapOk_L3 (k : Nat) (c60_ : GCell) (e58_ : GHeap) : Nat → Int → Option (Out Bool Unit)
  | 0, _ => none
  | m + 1, b61_ =>
    if (decide (b61_ < (c60_.gKids.length : Int))) = true then
      (at' c60_.gKids b61_).bind fun b62_ =>
      (pspec_l01In k b62_ 0 (wr.i64 ((e58_.gCells.length : Int) - 1))).bind fun g63_ =>
      if (!g63_) = true then
        some (.ret false)
      else
        pspec_HeapOk_L3 k c60_ e58_ m (wr.i64 (b61_ + 1))
    else
      some (.done ())
def pspec_HeapOk_L4 (k : Nat) (b59_ : Int) (c60_ : GCell) (e58_ : GHeap) : Nat → Int → Option (Out Bool Unit)
  | 0, _ => none
  | m + 1, b64_ =>
    if (decide (b64_ < b59_)) = true then
      if (c60_.gKind == 1) = true then
        (at' e58_.gCells b64_).bind fun c65_ =>
        if (c65_.gKind == 1) = true then
          (at' e58_.gCells b64_).bind fun c66_ =>
          if (c66_.gNum == c60_.gNum) = true then
            some (.ret false)
          else
            pspec_HeapOk_L4 k b59_ c60_ e58_ m (wr.i64 (b64_ + 1))
        else
          pspec_HeapOk_L4 k b59_ c60_ e58_ m (wr.i64 (b64_ + 1))
      else
        some (.done ())
    else
      some (.done ())
def pspec_HeapOk_J2 (k : Nat) (bk_ : Int → Option (Out Bool Unit)) (c60_ : GCell) (e58_ : GHeap) (b59_ : Int) : Option (Out Bool Unit) :=
  (pspec_HeapOk_L3 k c60_ e58_ k 0).bind fun out3 => match out3 with
  | .ret r => some (.ret r)
  | .done () =>
    (pspec_HeapOk_L4 k b59_ c60_ e58_ k 0).bind fun out4 => match out4 with
    | .ret r => some (.ret r)
    | .done () =>
      bk_ (wr.i64 (b59_ + 1))
def pspec_HeapOk_L1 (k : Nat) (e58_ : GHeap) : Nat → Int → Option (Out Bool Unit)
  | 0, _ => none
  | m + 1, b59_ =>
    if (decide (b59_ < (e58_.gCells.length : Int))) = true then
      (at' e58_.gCells b59_).bind fun c60_ =>
      (pspec_l01In k c60_.gKind 1 4).bind fun g67_ =>
      if (!g67_) = true then
        some (.ret false)
      else
        if (c60_.gKind == 1) = true then
          (pspec_l01In k c60_.gTo (-1) (wr.i64 ((e58_.gCells.length : Int) - 1))).bind fun g68_ =>
          if (!g68_) = true then
            some (.ret false)
          else
            (pspec_FollowCell k e58_ b59_).bind fun b69_ =>
            if (decide (b69_ < 0)) = true then
              some (.ret false)
            else
              pspec_HeapOk_J2 k (pspec_HeapOk_L1 k e58_ m) c60_ e58_ b59_
        else
          pspec_HeapOk_J2 k (pspec_HeapOk_L1 k e58_ m) c60_ e58_ b59_
    else
      some (.done ())
def pspec_HeapOk_L5 (k : Nat) (e58_ : GHeap) : Nat → Int → Option (Out Bool Unit)
  | 0, _ => none
  | m + 1, b70_ =>
    if (decide (b70_ < (e58_.gTrail.length : Int))) = true then
      (at' e58_.gTrail b70_).bind fun b71_ =>
      (pspec_l01In k b71_ 0 (wr.i64 ((e58_.gCells.length : Int) - 1))).bind fun g72_ =>
      if (!g72_) = true then
        some (.ret false)
      else
        (at' e58_.gTrail b70_).bind fun b73_ =>
        (at' e58_.gCells b73_).bind fun c74_ =>
        if (c74_.gKind != 1) = true then
          some (.ret false)
        else
          pspec_HeapOk_L5 k e58_ m (wr.i64 (b70_ + 1))
    else
      some (.done ())
/-- spec.HeapOk -/
def pspec_HeapOk (k : Nat) (e58_ : GHeap) : Option Bool :=
  if (decide ((e58_.gCells.length : Int) > 60000)) = true then
    some false
  else
    (pspec_HeapOk_L1 k e58_ k 0).bind fun out1 => match out1 with
    | .ret r => some r
    | .done () =>
      (pspec_HeapOk_L5 k e58_ k 0).bind fun out5 => match out5 with
      | .ret r => some r
      | .done () =>
        some true
set_option maxHeartbeats 4000000 in
theorem cspec_HeapOk {k : Nat} {e58_ : GHeap} {r : Bool} (h : pspec_HeapOk k e58_ = some r) : FnO Try.prog 113 [.v (.agg [.sl (List.map GCell.c e58_.gCells), .sl (List.map cI.i64 e58_.gTrail)]) []] (.v (.bool r) []) [] := by
  refine FnO.of Try.func113 (rfl : Try.f113.body = some _) (Nat.le_of_ble_eq_true (by kernel_rfl)) (Nat.le_of_ble_eq_true (by kernel_rfl)) ?_
  intro w0 X0 Fin pv0 pb
  unfold pspec_HeapOk at h
  refine Wc.seq ?_
  refine Wc.region [] [] [1] [1] [] ⟨[(1, (.ptr 1 0, []))], [(1, .cells [.sl (List.map GCell.c e58_.gCells), .sl (List.map cI.i64 e58_.gTrail)] [])], []⟩ _ (by kernel_rfl) .nil ?_
  refine Wc.seq ?_
  refine Wc.region [{}, {}, { v := some (.int .i64 (e58_.gCells.length : Int)) }] [] [1, 3] [1] [] ⟨[(1, (.ptr 1 0, [])), (3, (.v (.int .i64 (e58_.gCells.length : Int)), []))], [(1, .cells [.sl (List.map GCell.c e58_.gCells), .sl (List.map cI.i64 e58_.gTrail)] [])], []⟩ _ (by kernel_rfl) (.cons (len_obl GCell.c e58_.gCells) .nil) ?_
  refine Wc.seq ?_
  refine Wc.seq ?_
  refine Wc.region [] [] [1, 3, 13] [1] [] ⟨[(1, (.ptr 1 0, [])), (3, (.v (.int .i64 (e58_.gCells.length : Int)), [])), (13, (.v (.bool (decide ((e58_.gCells.length : Int) > 60000))), []))], [(1, .cells [.sl (List.map GCell.c e58_.gCells), .sl (List.map cI.i64 e58_.gTrail)] [])], []⟩ _ (by kernel_rfl) .nil ?_
  rcases oif h with ⟨h54, h⟩ | ⟨h54, h⟩
  · refine Wc.condT h54 (by kernel_rfl) ?_
    refine Wc.seq ?_
    refine Wc.region [] [] [2] [] [] ⟨[(2, (.v (.bool false), []))], [], []⟩ _ (by kernel_rfl) .nil ?_
    refine Wc.ret ?_
    obtain rfl := Option.some.inj h
    exact ⟨.inl rfl, by kernel_rfl, by kernel_rfl⟩
  · refine Wc.condF h54 (by kernel_rfl) ?_
    refine Wc.fix (st' := ⟨[(1, (.ptr 1 0, [])), (3, (.v (.int .i64 (e58_.gCells.length : Int)), []))], [(1, .cells [.sl (List.map GCell.c e58_.gCells), .sl (List.map cI.i64 e58_.gTrail)] [])], []⟩) [] [1, 3] [1] [] (by kernel_rfl) ?_
    refine Wc.skip ?_
    refine Wc.seq ?_
    refine Wc.seq ?_
    refine Wc.region [] [] [1, 3, 4] [1] [] ⟨[(1, (.ptr 1 0, [])), (3, (.v (.int .i64 (e58_.gCells.length : Int)), [])), (4, (.v (.int .i64 0), []))], [(1, .cells [.sl (List.map GCell.c e58_.gCells), .sl (List.map cI.i64 e58_.gTrail)] [])], []⟩ _ (by kernel_rfl) .nil ?_
    obtain ⟨out1, h55, h⟩ := obind h
    refine Wc.lastJ (fun st => out1 = .done () ∧ st = ⟨[(1, (.ptr 1 0, [])), (3, (.v (.int .i64 (e58_.gCells.length : Int)), []))], [(1, .cells [.sl (List.map GCell.c e58_.gCells), .sl (List.map cI.i64 e58_.gTrail)] [])], []⟩) ?_ ?_
    · refine Wc.block ?_
      refine Wc.loop (fun m st => ∃ (b59_ : Int), st = ⟨[(1, (.ptr 1 0, [])), (3, (.v (.int .i64 (e58_.gCells.length : Int)), [])), (4, (.v (.int .i64 b59_), []))], [(1, .cells [.sl (List.map GCell.c e58_.gCells), .sl (List.map cI.i64 e58_.gTrail)] [])], []⟩ ∧ pspec_HeapOk_L1 k e58_ m b59_ = some out1) ?_ k ⟨_, rfl, h55⟩
      rintro m st ⟨b59_, rfl, h55⟩
      cases m with
      | zero => exact (onone h55).elim
      | succ m =>
        refine Wc.seq ?_
        refine Wc.seq ?_
        refine Wc.region [] [] [1, 3, 4, 16] [1] [] ⟨[(1, (.ptr 1 0, [])), (3, (.v (.int .i64 (e58_.gCells.length : Int)), [])), (4, (.v (.int .i64 b59_), [])), (16, (.v (.bool (decide (b59_ < (e58_.gCells.length : Int)))), []))], [(1, .cells [.sl (List.map GCell.c e58_.gCells), .sl (List.map cI.i64 e58_.gTrail)] [])], []⟩ _ (by kernel_rfl) .nil ?_
        rcases oif h55 with ⟨h56, h55⟩ | ⟨h56, h55⟩
        · refine Wc.condT h56 (by kernel_rfl) ?_
          refine Wc.fix (st' := ⟨[(1, (.ptr 1 0, [])), (3, (.v (.int .i64 (e58_.gCells.length : Int)), [])), (4, (.v (.int .i64 b59_), []))], [(1, .cells [.sl (List.map GCell.c e58_.gCells), .sl (List.map cI.i64 e58_.gTrail)] [])], []⟩) [] [1, 3, 4] [1] [] (by kernel_rfl) ?_
          refine Wc.skip ?_
          refine Wc.seq ?_
          refine Wc.block ?_
          refine Wc.seq ?_
          obtain ⟨c60_, h57, h55⟩ := obind h55
          refine Wc.region [{}, {}, {}, { v := some (.vptr [.int .i64 c60_.gKind, .str c60_.gName, .int .i64 c60_.gNum, .int .i64 c60_.gTo, .sl (List.map cI.i64 c60_.gKids)]) }] [] [1, 3, 4, 5] [1, 5] [] ⟨[(1, (.ptr 1 0, [])), (3, (.v (.int .i64 (e58_.gCells.length : Int)), [])), (4, (.v (.int .i64 b59_), [])), (5, (.ptr 5 0, []))], [(1, .cells [.sl (List.map GCell.c e58_.gCells), .sl (List.map cI.i64 e58_.gTrail)] []), (5, .cells [.int .i64 c60_.gKind, .str c60_.gName, .int .i64 c60_.gNum, .int .i64 c60_.gTo, .sl (List.map cI.i64 c60_.gKids)] [])], []⟩ _ (by kernel_rfl) (.cons (at_obl (c := GCell.c) (GCell.c_eq c60_) GCell.c_len h57) (.cons (len_ok 5 [.int .i64 c60_.gKind, .str c60_.gName, .int .i64 c60_.gNum, .int .i64 c60_.gTo, .sl (List.map cI.i64 c60_.gKids)]) .nil)) ?_
          refine Wc.seqJ (fun st => st = ⟨[(1, (.ptr 1 0, [])), (3, (.v (.int .i64 (e58_.gCells.length : Int)), [])), (4, (.v (.int .i64 b59_), [])), (5, (.ptr 5 0, []))], [(1, .cells [.sl (List.map GCell.c e58_.gCells), .sl (List.map cI.i64 e58_.gTrail)] []), (5, .cells [.int .i64 c60_.gKind, .str c60_.gName, .int .i64 c60_.gNum, .int .i64 c60_.gTo, .sl (List.map cI.i64 c60_.gKids)] [])], []⟩ ∧ pspec_HeapOk_J2 k (pspec_HeapOk_L1 k e58_ m) c60_ e58_ b59_ = some out1) ?_ ?_
          · refine Wc.seq ?_
            obtain ⟨g67_, h70, h55⟩ := obind h55
            rcases oif h55 with ⟨h71, h55⟩ | ⟨h71, h55⟩
            · refine Wc.region [{}, {}, { r := some (.v (.bool g67_) []) }, {}, { re := some (.bool true) }] [] [1, 3, 4, 5, 46] [1, 5] [] ⟨[(1, (.ptr 1 0, [])), (3, (.v (.int .i64 (e58_.gCells.length : Int)), [])), (4, (.v (.int .i64 b59_), [])), (5, (.ptr 5 0, [])), (46, (.v (.bool true), []))], [(1, .cells [.sl (List.map GCell.c e58_.gCells), .sl (List.map cI.i64 e58_.gTrail)] []), (5, .cells [.int .i64 c60_.gKind, .str c60_.gName, .int .i64 c60_.gNum, .int .i64 c60_.gTo, .sl (List.map cI.i64 c60_.gKids)] [])], []⟩ _ (by kernel_rfl) (.cons (cspec_l01In h70) (.cons (congrArg AV.bool h71) .nil)) ?_
              refine Wc.condT rfl (by kernel_rfl) ?_
              refine Wc.seq ?_
              refine Wc.region [] [] [2] [] [] ⟨[(2, (.v (.bool false), []))], [], []⟩ _ (by kernel_rfl) .nil ?_
              refine Wc.ret ?_
              obtain rfl := Option.some.inj h55
              obtain rfl := Option.some.inj h
              exact ⟨.inl rfl, by kernel_rfl, by kernel_rfl⟩
            · rcases oif h55 with ⟨h72, h55⟩ | ⟨h72, h55⟩
              · obtain ⟨g68_, h73, h55⟩ := obind h55
                rcases oif h55 with ⟨h74, h55⟩ | ⟨h74, h55⟩
                · refine Wc.region [{}, {}, { r := some (.v (.bool g67_) []) }, {}, { re := some (.bool false) }, {}, {}, {}, { re := some (.bool true) }, {}, {}, {}, {}, { r := some (.v (.bool g68_) []) }, {}, { re := some (.bool true) }] [] [1, 3, 4, 5, 46] [1, 5] [] ⟨[(1, (.ptr 1 0, [])), (3, (.v (.int .i64 (e58_.gCells.length : Int)), [])), (4, (.v (.int .i64 b59_), [])), (5, (.ptr 5 0, [])), (46, (.v (.bool true), []))], [(1, .cells [.sl (List.map GCell.c e58_.gCells), .sl (List.map cI.i64 e58_.gTrail)] []), (5, .cells [.int .i64 c60_.gKind, .str c60_.gName, .int .i64 c60_.gNum, .int .i64 c60_.gTo, .sl (List.map cI.i64 c60_.gKids)] [])], []⟩ _ (by kernel_rfl) (.cons (cspec_l01In h70) (.cons (congrArg AV.bool h71) (.cons (congrArg AV.bool h72) (.cons (cspec_l01In h73) (.cons (congrArg AV.bool h74) .nil))))) ?_
                  refine Wc.condT rfl (by kernel_rfl) ?_
                  refine Wc.seq ?_
                  refine Wc.region [] [] [2] [] [] ⟨[(2, (.v (.bool false), []))], [], []⟩ _ (by kernel_rfl) .nil ?_
                  refine Wc.ret ?_
                  obtain rfl := Option.some.inj h55
                  obtain rfl := Option.some.inj h
                  exact ⟨.inl rfl, by kernel_rfl, by kernel_rfl⟩
                · obtain ⟨b69_, h75, h55⟩ := obind h55
                  refine Wc.region [{}, {}, { r := some (.v (.bool g67_) []) }, {}, { re := some (.bool false) }, {}, {}, {}, { re := some (.bool true) }, {}, {}, {}, {}, { r := some (.v (.bool g68_) []) }, {}, { re := some (.bool false) }, {}, {}, { r := some (.v (.int .i64 b69_) []) }] [] [1, 3, 4, 5, 46] [1, 5] [] ⟨[(1, (.ptr 1 0, [])), (3, (.v (.int .i64 (e58_.gCells.length : Int)), [])), (4, (.v (.int .i64 b59_), [])), (5, (.ptr 5 0, [])), (46, (.v (.bool (decide (b69_ < 0))), []))], [(1, .cells [.sl (List.map GCell.c e58_.gCells), .sl (List.map cI.i64 e58_.gTrail)] []), (5, .cells [.int .i64 c60_.gKind, .str c60_.gName, .int .i64 c60_.gNum, .int .i64 c60_.gTo, .sl (List.map cI.i64 c60_.gKids)] [])], []⟩ _ (by kernel_rfl) (.cons (cspec_l01In h70) (.cons (congrArg AV.bool h71) (.cons (congrArg AV.bool h72) (.cons (cspec_l01In h73) (.cons (congrArg AV.bool h74) (.cons (cspec_FollowCell h75) .nil)))))) ?_
                  rcases oif h55 with ⟨h76, h55⟩ | ⟨h76, h55⟩
                  · refine Wc.condT h76 (by kernel_rfl) ?_
                    refine Wc.seq ?_
                    refine Wc.region [] [] [2] [] [] ⟨[(2, (.v (.bool false), []))], [], []⟩ _ (by kernel_rfl) .nil ?_
                    refine Wc.ret ?_
                    obtain rfl := Option.some.inj h55
                    obtain rfl := Option.some.inj h
                    exact ⟨.inl rfl, by kernel_rfl, by kernel_rfl⟩
                  · refine Wc.condF h76 (by kernel_rfl) ?_
                    refine Wc.fix (st' := ⟨[(1, (.ptr 1 0, [])), (3, (.v (.int .i64 (e58_.gCells.length : Int)), [])), (4, (.v (.int .i64 b59_), [])), (5, (.ptr 5 0, []))], [(1, .cells [.sl (List.map GCell.c e58_.gCells), .sl (List.map cI.i64 e58_.gTrail)] []), (5, .cells [.int .i64 c60_.gKind, .str c60_.gName, .int .i64 c60_.gNum, .int .i64 c60_.gTo, .sl (List.map cI.i64 c60_.gKids)] [])], []⟩) [] [1, 3, 4, 5] [1, 5] [] (by kernel_rfl) ?_
                    refine Wc.skip ?_
                    exact ⟨rfl, h55⟩
              · refine Wc.region [{}, {}, { r := some (.v (.bool g67_) []) }, {}, { re := some (.bool false) }, {}, {}, {}, { re := some (.bool false) }] [] [1, 3, 4, 5, 46] [1, 5] [] ⟨[(1, (.ptr 1 0, [])), (3, (.v (.int .i64 (e58_.gCells.length : Int)), [])), (4, (.v (.int .i64 b59_), [])), (5, (.ptr 5 0, [])), (46, (.v (.bool false), []))], [(1, .cells [.sl (List.map GCell.c e58_.gCells), .sl (List.map cI.i64 e58_.gTrail)] []), (5, .cells [.int .i64 c60_.gKind, .str c60_.gName, .int .i64 c60_.gNum, .int .i64 c60_.gTo, .sl (List.map cI.i64 c60_.gKids)] [])], []⟩ _ (by kernel_rfl) (.cons (cspec_l01In h70) (.cons (congrArg AV.bool h71) (.cons (congrArg AV.bool h72) .nil))) ?_
                refine Wc.condF rfl (by kernel_rfl) ?_
                refine Wc.fix (st' := ⟨[(1, (.ptr 1 0, [])), (3, (.v (.int .i64 (e58_.gCells.length : Int)), [])), (4, (.v (.int .i64 b59_), [])), (5, (.ptr 5 0, []))], [(1, .cells [.sl (List.map GCell.c e58_.gCells), .sl (List.map cI.i64 e58_.gTrail)] []), (5, .cells [.int .i64 c60_.gKind, .str c60_.gName, .int .i64 c60_.gNum, .int .i64 c60_.gTo, .sl (List.map cI.i64 c60_.gKids)] [])], []⟩) [] [1, 3, 4, 5] [1, 5] [] (by kernel_rfl) ?_
                refine Wc.skip ?_
                exact ⟨rfl, h55⟩
          · rintro st ⟨rfl, h55⟩
            refine Wc.seq ?_
            refine Wc.seq ?_
            refine Wc.region [] [] [1, 3, 4, 5, 6] [1, 5] [] ⟨[(1, (.ptr 1 0, [])), (3, (.v (.int .i64 (e58_.gCells.length : Int)), [])), (4, (.v (.int .i64 b59_), [])), (5, (.ptr 5 0, [])), (6, (.v (.int .i64 0), []))], [(1, .cells [.sl (List.map GCell.c e58_.gCells), .sl (List.map cI.i64 e58_.gTrail)] []), (5, .cells [.int .i64 c60_.gKind, .str c60_.gName, .int .i64 c60_.gNum, .int .i64 c60_.gTo, .sl (List.map cI.i64 c60_.gKids)] [])], []⟩ _ (by kernel_rfl) .nil ?_
            obtain ⟨out3, h58, h55⟩ := obind h55
            refine Wc.lastJ (fun st => out3 = .done () ∧ st = ⟨[(1, (.ptr 1 0, [])), (3, (.v (.int .i64 (e58_.gCells.length : Int)), [])), (4, (.v (.int .i64 b59_), [])), (5, (.ptr 5 0, []))], [(1, .cells [.sl (List.map GCell.c e58_.gCells), .sl (List.map cI.i64 e58_.gTrail)] []), (5, .cells [.int .i64 c60_.gKind, .str c60_.gName, .int .i64 c60_.gNum, .int .i64 c60_.gTo, .sl (List.map cI.i64 c60_.gKids)] [])], []⟩) ?_ ?_
            · refine Wc.block ?_
              refine Wc.loop (fun m st => ∃ (b61_ : Int), st = ⟨[(1, (.ptr 1 0, [])), (3, (.v (.int .i64 (e58_.gCells.length : Int)), [])), (4, (.v (.int .i64 b59_), [])), (5, (.ptr 5 0, [])), (6, (.v (.int .i64 b61_), []))], [(1, .cells [.sl (List.map GCell.c e58_.gCells), .sl (List.map cI.i64 e58_.gTrail)] []), (5, .cells [.int .i64 c60_.gKind, .str c60_.gName, .int .i64 c60_.gNum, .int .i64 c60_.gTo, .sl (List.map cI.i64 c60_.gKids)] [])], []⟩ ∧ pspec_HeapOk_L3 k c60_ e58_ m b61_ = some out3) ?_ k ⟨_, rfl, h58⟩
              rintro m st ⟨b61_, rfl, h58⟩
              cases m with
              | zero => exact (onone h58).elim
              | succ m =>
                refine Wc.seq ?_
                refine Wc.seq ?_
                refine Wc.region [{}, {}, {}, { v := some (.int .i64 (c60_.gKids.length : Int)) }] [] [1, 3, 4, 5, 6, 51] [1, 5] [] ⟨[(1, (.ptr 1 0, [])), (3, (.v (.int .i64 (e58_.gCells.length : Int)), [])), (4, (.v (.int .i64 b59_), [])), (5, (.ptr 5 0, [])), (6, (.v (.int .i64 b61_), [])), (51, (.v (.bool (decide (b61_ < (c60_.gKids.length : Int)))), []))], [(1, .cells [.sl (List.map GCell.c e58_.gCells), .sl (List.map cI.i64 e58_.gTrail)] []), (5, .cells [.int .i64 c60_.gKind, .str c60_.gName, .int .i64 c60_.gNum, .int .i64 c60_.gTo, .sl (List.map cI.i64 c60_.gKids)] [])], []⟩ _ (by kernel_rfl) (.cons (len_obl cI.i64 c60_.gKids) .nil) ?_
                rcases oif h58 with ⟨h59, h58⟩ | ⟨h59, h58⟩
                · refine Wc.condT h59 (by kernel_rfl) ?_
                  refine Wc.fix (st' := ⟨[(1, (.ptr 1 0, [])), (3, (.v (.int .i64 (e58_.gCells.length : Int)), [])), (4, (.v (.int .i64 b59_), [])), (5, (.ptr 5 0, [])), (6, (.v (.int .i64 b61_), []))], [(1, .cells [.sl (List.map GCell.c e58_.gCells), .sl (List.map cI.i64 e58_.gTrail)] []), (5, .cells [.int .i64 c60_.gKind, .str c60_.gName, .int .i64 c60_.gNum, .int .i64 c60_.gTo, .sl (List.map cI.i64 c60_.gKids)] [])], []⟩) [] [1, 3, 4, 5, 6] [1, 5] [] (by kernel_rfl) ?_
                  refine Wc.skip ?_
                  refine Wc.seq ?_
                  refine Wc.block ?_
                  refine Wc.seq ?_
                  obtain ⟨b62_, h60, h58⟩ := obind h58
                  obtain ⟨g63_, h61, h58⟩ := obind h58
                  refine Wc.region [{}, {}, {}, { v := some (.vptr [.int .i64 b62_]) }, {}, {}, {}, { r := some (.v (.bool g63_) []) }] [] [1, 3, 4, 5, 6, 62] [1, 5] [] ⟨[(1, (.ptr 1 0, [])), (3, (.v (.int .i64 (e58_.gCells.length : Int)), [])), (4, (.v (.int .i64 b59_), [])), (5, (.ptr 5 0, [])), (6, (.v (.int .i64 b61_), [])), (62, (.v (.bool (!g63_)), []))], [(1, .cells [.sl (List.map GCell.c e58_.gCells), .sl (List.map cI.i64 e58_.gTrail)] []), (5, .cells [.int .i64 c60_.gKind, .str c60_.gName, .int .i64 c60_.gNum, .int .i64 c60_.gTo, .sl (List.map cI.i64 c60_.gKids)] [])], []⟩ _ (by kernel_rfl) (.cons (at_obl (c := cI.i64) rfl cI.i64_len h60) (.cons (len_ok 1 [.int .i64 b62_]) (.cons (cspec_l01In h61) .nil))) ?_
                  rcases oif h58 with ⟨h62, h58⟩ | ⟨h62, h58⟩
                  · refine Wc.condT h62 (by kernel_rfl) ?_
                    refine Wc.seq ?_
                    refine Wc.region [] [] [2] [] [] ⟨[(2, (.v (.bool false), []))], [], []⟩ _ (by kernel_rfl) .nil ?_
                    refine Wc.ret ?_
                    obtain rfl := Option.some.inj h58
                    obtain rfl := Option.some.inj h55
                    obtain rfl := Option.some.inj h
                    exact ⟨.inl rfl, by kernel_rfl, by kernel_rfl⟩
                  · refine Wc.condF h62 (by kernel_rfl) ?_
                    refine Wc.fix (st' := ⟨[(1, (.ptr 1 0, [])), (3, (.v (.int .i64 (e58_.gCells.length : Int)), [])), (4, (.v (.int .i64 b59_), [])), (5, (.ptr 5 0, [])), (6, (.v (.int .i64 b61_), []))], [(1, .cells [.sl (List.map GCell.c e58_.gCells), .sl (List.map cI.i64 e58_.gTrail)] []), (5, .cells [.int .i64 c60_.gKind, .str c60_.gName, .int .i64 c60_.gNum, .int .i64 c60_.gTo, .sl (List.map cI.i64 c60_.gKids)] [])], []⟩) [] [1, 3, 4, 5, 6] [1, 5] [] (by kernel_rfl) ?_
                    refine Wc.skip ?_
                    refine Wc.region [] [] [1, 3, 4, 5, 6] [1, 5] [] ⟨[(1, (.ptr 1 0, [])), (3, (.v (.int .i64 (e58_.gCells.length : Int)), [])), (4, (.v (.int .i64 b59_), [])), (5, (.ptr 5 0, [])), (6, (.v (.int .i64 (wr.i64 (b61_ + 1))), []))], [(1, .cells [.sl (List.map GCell.c e58_.gCells), .sl (List.map cI.i64 e58_.gTrail)] []), (5, .cells [.int .i64 c60_.gKind, .str c60_.gName, .int .i64 c60_.gNum, .int .i64 c60_.gTo, .sl (List.map cI.i64 c60_.gKids)] [])], []⟩ _ (by kernel_rfl) .nil ?_
                    exact ⟨_, Nat.lt_succ_self _, _, rfl, h58⟩
                · refine Wc.condF h59 (by kernel_rfl) ?_
                  refine Wc.fix (st' := ⟨[(1, (.ptr 1 0, [])), (3, (.v (.int .i64 (e58_.gCells.length : Int)), [])), (4, (.v (.int .i64 b59_), [])), (5, (.ptr 5 0, []))], [(1, .cells [.sl (List.map GCell.c e58_.gCells), .sl (List.map cI.i64 e58_.gTrail)] []), (5, .cells [.int .i64 c60_.gKind, .str c60_.gName, .int .i64 c60_.gNum, .int .i64 c60_.gTo, .sl (List.map cI.i64 c60_.gKids)] [])], []⟩) [] [1, 3, 4, 5] [1, 5] [] (by kernel_rfl) ?_
                  refine Wc.exit ?_
                  obtain rfl := Option.some.inj h58
                  exact ⟨rfl, rfl⟩
            · rintro st ⟨rfl, rfl⟩
              refine Wc.seq ?_
              refine Wc.region [] [] [1, 3, 4, 5, 7] [1, 5] [] ⟨[(1, (.ptr 1 0, [])), (3, (.v (.int .i64 (e58_.gCells.length : Int)), [])), (4, (.v (.int .i64 b59_), [])), (5, (.ptr 5 0, [])), (7, (.v (.int .i64 0), []))], [(1, .cells [.sl (List.map GCell.c e58_.gCells), .sl (List.map cI.i64 e58_.gTrail)] []), (5, .cells [.int .i64 c60_.gKind, .str c60_.gName, .int .i64 c60_.gNum, .int .i64 c60_.gTo, .sl (List.map cI.i64 c60_.gKids)] [])], []⟩ _ (by kernel_rfl) .nil ?_
              obtain ⟨out4, h63, h55⟩ := obind h55
              refine Wc.lastJ (fun st => out4 = .done () ∧ st = ⟨[(1, (.ptr 1 0, [])), (3, (.v (.int .i64 (e58_.gCells.length : Int)), [])), (4, (.v (.int .i64 b59_), []))], [(1, .cells [.sl (List.map GCell.c e58_.gCells), .sl (List.map cI.i64 e58_.gTrail)] [])], []⟩) ?_ ?_
              · refine Wc.block ?_
                refine Wc.loop (fun m st => ∃ (b64_ : Int), st = ⟨[(1, (.ptr 1 0, [])), (3, (.v (.int .i64 (e58_.gCells.length : Int)), [])), (4, (.v (.int .i64 b59_), [])), (5, (.ptr 5 0, [])), (7, (.v (.int .i64 b64_), []))], [(1, .cells [.sl (List.map GCell.c e58_.gCells), .sl (List.map cI.i64 e58_.gTrail)] []), (5, .cells [.int .i64 c60_.gKind, .str c60_.gName, .int .i64 c60_.gNum, .int .i64 c60_.gTo, .sl (List.map cI.i64 c60_.gKids)] [])], []⟩ ∧ pspec_HeapOk_L4 k b59_ c60_ e58_ m b64_ = some out4) ?_ k ⟨_, rfl, h63⟩
                rintro m st ⟨b64_, rfl, h63⟩
                cases m with
                | zero => exact (onone h63).elim
                | succ m =>
                  refine Wc.seq ?_
                  refine Wc.seq ?_
                  rcases oif h63 with ⟨h64, h63⟩ | ⟨h64, h63⟩
                  · refine Wc.region [{}, {}, {}, { re := some (.bool true) }] [] [1, 3, 4, 5, 7, 70] [1, 5] [] ⟨[(1, (.ptr 1 0, [])), (3, (.v (.int .i64 (e58_.gCells.length : Int)), [])), (4, (.v (.int .i64 b59_), [])), (5, (.ptr 5 0, [])), (7, (.v (.int .i64 b64_), [])), (70, (.v (.bool (c60_.gKind == 1)), []))], [(1, .cells [.sl (List.map GCell.c e58_.gCells), .sl (List.map cI.i64 e58_.gTrail)] []), (5, .cells [.int .i64 c60_.gKind, .str c60_.gName, .int .i64 c60_.gNum, .int .i64 c60_.gTo, .sl (List.map cI.i64 c60_.gKids)] [])], []⟩ _ (by kernel_rfl) (.cons (congrArg AV.bool h64) .nil) ?_
                    rcases oif h63 with ⟨h65, h63⟩ | ⟨h65, h63⟩
                    · refine Wc.condT h65 (by kernel_rfl) ?_
                      refine Wc.fix (st' := ⟨[(1, (.ptr 1 0, [])), (3, (.v (.int .i64 (e58_.gCells.length : Int)), [])), (4, (.v (.int .i64 b59_), [])), (5, (.ptr 5 0, [])), (7, (.v (.int .i64 b64_), []))], [(1, .cells [.sl (List.map GCell.c e58_.gCells), .sl (List.map cI.i64 e58_.gTrail)] []), (5, .cells [.int .i64 c60_.gKind, .str c60_.gName, .int .i64 c60_.gNum, .int .i64 c60_.gTo, .sl (List.map cI.i64 c60_.gKids)] [])], []⟩) [] [1, 3, 4, 5, 7] [1, 5] [] (by kernel_rfl) ?_
                      refine Wc.skip ?_
                      refine Wc.seq ?_
                      refine Wc.block ?_
                      refine Wc.seq ?_
                      obtain ⟨c65_, h66, h63⟩ := obind h63
                      rcases oif h63 with ⟨h67, h63⟩ | ⟨h67, h63⟩
                      · obtain ⟨c66_, h68, h63⟩ := obind h63
                        refine Wc.draw hmix [{}, {}, {}, { v := some (.vptr [.int .i64 c65_.gKind, .str c65_.gName, .int .i64 c65_.gNum, .int .i64 c65_.gTo, .sl (List.map cI.i64 c65_.gKids)]) }, {}, {}, {}, { re := some (.bool true) }, {}, {}, {}, { v := some (.vptr [.int .i64 c66_.gKind, .str c66_.gName, .int .i64 c66_.gNum, .int .i64 c66_.gTo, .sl (List.map cI.i64 c66_.gKids)]) }] [] [1, 3, 4, 5, 7, 90] [1, 5] [] ⟨[(1, (.ptr 1 0, [])), (3, (.v (.int .i64 (e58_.gCells.length : Int)), [])), (4, (.v (.int .i64 b59_), [])), (5, (.ptr 5 0, [])), (7, (.v (.int .i64 b64_), [])), (90, (.v (.bool (c66_.gNum == c60_.gNum)), []))], [(1, .cells [.sl (List.map GCell.c e58_.gCells), .sl (List.map cI.i64 e58_.gTrail)] []), (5, .cells [.int .i64 c60_.gKind, .str c60_.gName, .int .i64 c60_.gNum, .int .i64 c60_.gTo, .sl (List.map cI.i64 c60_.gKids)] [])], []⟩ _ (by kernel_rfl) (fun X => by kernel_rfl) (.cons (at_obl (c := GCell.c) (GCell.c_eq c65_) GCell.c_len h66) (.cons (len_ok 1 [.int .i64 c65_.gKind, .str c65_.gName, .int .i64 c65_.gNum, .int .i64 c65_.gTo, .sl (List.map cI.i64 c65_.gKids)]) (.cons (congrArg AV.bool h67) (.cons (at_obl (c := GCell.c) (GCell.c_eq c66_) GCell.c_len h68) (.cons (len_ok 1 [.int .i64 c66_.gNum, .int .i64 c66_.gTo, .sl (List.map cI.i64 c66_.gKids)]) .nil))))) ?_
                        rcases oif h63 with ⟨h69, h63⟩ | ⟨h69, h63⟩
                        · refine Wc.condT h69 (by kernel_rfl) ?_
                          refine Wc.seq ?_
                          refine Wc.region [] [] [2] [] [] ⟨[(2, (.v (.bool false), []))], [], []⟩ _ (by kernel_rfl) .nil ?_
                          refine Wc.ret ?_
                          obtain rfl := Option.some.inj h63
                          obtain rfl := Option.some.inj h55
                          obtain rfl := Option.some.inj h
                          exact ⟨.inl rfl, by kernel_rfl, by kernel_rfl⟩
                        · refine Wc.condF h69 (by kernel_rfl) ?_
                          refine Wc.fix (st' := ⟨[(1, (.ptr 1 0, [])), (3, (.v (.int .i64 (e58_.gCells.length : Int)), [])), (4, (.v (.int .i64 b59_), [])), (5, (.ptr 5 0, [])), (7, (.v (.int .i64 b64_), []))], [(1, .cells [.sl (List.map GCell.c e58_.gCells), .sl (List.map cI.i64 e58_.gTrail)] []), (5, .cells [.int .i64 c60_.gKind, .str c60_.gName, .int .i64 c60_.gNum, .int .i64 c60_.gTo, .sl (List.map cI.i64 c60_.gKids)] [])], []⟩) [] [1, 3, 4, 5, 7] [1, 5] [] (by kernel_rfl) ?_
                          refine Wc.skip ?_
                          refine Wc.region [] [] [1, 3, 4, 5, 7] [1, 5] [] ⟨[(1, (.ptr 1 0, [])), (3, (.v (.int .i64 (e58_.gCells.length : Int)), [])), (4, (.v (.int .i64 b59_), [])), (5, (.ptr 5 0, [])), (7, (.v (.int .i64 (wr.i64 (b64_ + 1))), []))], [(1, .cells [.sl (List.map GCell.c e58_.gCells), .sl (List.map cI.i64 e58_.gTrail)] []), (5, .cells [.int .i64 c60_.gKind, .str c60_.gName, .int .i64 c60_.gNum, .int .i64 c60_.gTo, .sl (List.map cI.i64 c60_.gKids)] [])], []⟩ _ (by kernel_rfl) .nil ?_
                          exact ⟨_, Nat.lt_succ_self _, _, rfl, h63⟩
                      · refine Wc.draw hmix [{}, {}, {}, { v := some (.vptr [.int .i64 c65_.gKind, .str c65_.gName, .int .i64 c65_.gNum, .int .i64 c65_.gTo, .sl (List.map cI.i64 c65_.gKids)]) }, {}, {}, {}, { re := some (.bool false) }] [] [1, 3, 4, 5, 7, 90] [1, 5] [] ⟨[(1, (.ptr 1 0, [])), (3, (.v (.int .i64 (e58_.gCells.length : Int)), [])), (4, (.v (.int .i64 b59_), [])), (5, (.ptr 5 0, [])), (7, (.v (.int .i64 b64_), [])), (90, (.v (.bool false), []))], [(1, .cells [.sl (List.map GCell.c e58_.gCells), .sl (List.map cI.i64 e58_.gTrail)] []), (5, .cells [.int .i64 c60_.gKind, .str c60_.gName, .int .i64 c60_.gNum, .int .i64 c60_.gTo, .sl (List.map cI.i64 c60_.gKids)] [])], []⟩ _ (by kernel_rfl) (fun X => by kernel_rfl) (.cons (at_obl (c := GCell.c) (GCell.c_eq c65_) GCell.c_len h66) (.cons (len_ok 1 [.int .i64 c65_.gKind, .str c65_.gName, .int .i64 c65_.gNum, .int .i64 c65_.gTo, .sl (List.map cI.i64 c65_.gKids)]) (.cons (congrArg AV.bool h67) .nil))) ?_
                        refine Wc.condF rfl (by kernel_rfl) ?_
                        refine Wc.fix (st' := ⟨[(1, (.ptr 1 0, [])), (3, (.v (.int .i64 (e58_.gCells.length : Int)), [])), (4, (.v (.int .i64 b59_), [])), (5, (.ptr 5 0, [])), (7, (.v (.int .i64 b64_), []))], [(1, .cells [.sl (List.map GCell.c e58_.gCells), .sl (List.map cI.i64 e58_.gTrail)] []), (5, .cells [.int .i64 c60_.gKind, .str c60_.gName, .int .i64 c60_.gNum, .int .i64 c60_.gTo, .sl (List.map cI.i64 c60_.gKids)] [])], []⟩) [] [1, 3, 4, 5, 7] [1, 5] [] (by kernel_rfl) ?_
                        refine Wc.skip ?_
                        refine Wc.region [] [] [1, 3, 4, 5, 7] [1, 5] [] ⟨[(1, (.ptr 1 0, [])), (3, (.v (.int .i64 (e58_.gCells.length : Int)), [])), (4, (.v (.int .i64 b59_), [])), (5, (.ptr 5 0, [])), (7, (.v (.int .i64 (wr.i64 (b64_ + 1))), []))], [(1, .cells [.sl (List.map GCell.c e58_.gCells), .sl (List.map cI.i64 e58_.gTrail)] []), (5, .cells [.int .i64 c60_.gKind, .str c60_.gName, .int .i64 c60_.gNum, .int .i64 c60_.gTo, .sl (List.map cI.i64 c60_.gKids)] [])], []⟩ _ (by kernel_rfl) .nil ?_
                        exact ⟨_, Nat.lt_succ_self _, _, rfl, h63⟩
                    · refine Wc.condF h65 (by kernel_rfl) ?_
                      refine Wc.fix (st' := ⟨[(1, (.ptr 1 0, [])), (3, (.v (.int .i64 (e58_.gCells.length : Int)), [])), (4, (.v (.int .i64 b59_), []))], [(1, .cells [.sl (List.map GCell.c e58_.gCells), .sl (List.map cI.i64 e58_.gTrail)] [])], []⟩) [] [1, 3, 4] [1] [] (by kernel_rfl) ?_
                      refine Wc.exit ?_
                      obtain rfl := Option.some.inj h63
                      exact ⟨rfl, rfl⟩
                  · refine Wc.region [{}, {}, {}, { re := some (.bool false) }] [] [1, 3, 4, 5, 7, 70] [1, 5] [] ⟨[(1, (.ptr 1 0, [])), (3, (.v (.int .i64 (e58_.gCells.length : Int)), [])), (4, (.v (.int .i64 b59_), [])), (5, (.ptr 5 0, [])), (7, (.v (.int .i64 b64_), [])), (70, (.v (.bool false), []))], [(1, .cells [.sl (List.map GCell.c e58_.gCells), .sl (List.map cI.i64 e58_.gTrail)] []), (5, .cells [.int .i64 c60_.gKind, .str c60_.gName, .int .i64 c60_.gNum, .int .i64 c60_.gTo, .sl (List.map cI.i64 c60_.gKids)] [])], []⟩ _ (by kernel_rfl) (.cons (congrArg AV.bool h64) .nil) ?_
                    refine Wc.condF rfl (by kernel_rfl) ?_
                    refine Wc.fix (st' := ⟨[(1, (.ptr 1 0, [])), (3, (.v (.int .i64 (e58_.gCells.length : Int)), [])), (4, (.v (.int .i64 b59_), []))], [(1, .cells [.sl (List.map GCell.c e58_.gCells), .sl (List.map cI.i64 e58_.gTrail)] [])], []⟩) [] [1, 3, 4] [1] [] (by kernel_rfl) ?_
                    refine Wc.exit ?_
                    obtain rfl := Option.some.inj h63
                    exact ⟨rfl, rfl⟩
              · rintro st ⟨rfl, rfl⟩
                refine Wc.region [] [] [1, 3, 4] [1] [] ⟨[(1, (.ptr 1 0, [])), (3, (.v (.int .i64 (e58_.gCells.length : Int)), [])), (4, (.v (.int .i64 (wr.i64 (b59_ + 1))), []))], [(1, .cells [.sl (List.map GCell.c e58_.gCells), .sl (List.map cI.i64 e58_.gTrail)] [])], []⟩ _ (by kernel_rfl) .nil ?_
                exact ⟨_, Nat.lt_succ_self _, _, rfl, h55⟩
        · refine Wc.condF h56 (by kernel_rfl) ?_
          refine Wc.fix (st' := ⟨[(1, (.ptr 1 0, [])), (3, (.v (.int .i64 (e58_.gCells.length : Int)), []))], [(1, .cells [.sl (List.map GCell.c e58_.gCells), .sl (List.map cI.i64 e58_.gTrail)] [])], []⟩) [] [1, 3] [1] [] (by kernel_rfl) ?_
          refine Wc.exit ?_
          obtain rfl := Option.some.inj h55
          exact ⟨rfl, rfl⟩
    · rintro st ⟨rfl, rfl⟩
      refine Wc.seq ?_
      refine Wc.seq ?_
      refine Wc.region [] [] [1, 3, 8] [1] [] ⟨[(1, (.ptr 1 0, [])), (3, (.v (.int .i64 (e58_.gCells.length : Int)), [])), (8, (.v (.int .i64 0), []))], [(1, .cells [.sl (List.map GCell.c e58_.gCells), .sl (List.map cI.i64 e58_.gTrail)] [])], []⟩ _ (by kernel_rfl) .nil ?_
      obtain ⟨out5, h77, h⟩ := obind h
      refine Wc.lastJ (fun st => out5 = .done () ∧ st = ⟨[], [], []⟩) ?_ ?_
      · refine Wc.block ?_
        refine Wc.loop (fun m st => ∃ (b70_ : Int), st = ⟨[(1, (.ptr 1 0, [])), (3, (.v (.int .i64 (e58_.gCells.length : Int)), [])), (8, (.v (.int .i64 b70_), []))], [(1, .cells [.sl (List.map GCell.c e58_.gCells), .sl (List.map cI.i64 e58_.gTrail)] [])], []⟩ ∧ pspec_HeapOk_L5 k e58_ m b70_ = some out5) ?_ k ⟨_, rfl, h77⟩
        rintro m st ⟨b70_, rfl, h77⟩
        cases m with
        | zero => exact (onone h77).elim
        | succ m =>
          refine Wc.seq ?_
          refine Wc.seq ?_
          refine Wc.region [{}, {}, {}, { v := some (.int .i64 (e58_.gTrail.length : Int)) }] [] [1, 3, 8, 95] [1] [] ⟨[(1, (.ptr 1 0, [])), (3, (.v (.int .i64 (e58_.gCells.length : Int)), [])), (8, (.v (.int .i64 b70_), [])), (95, (.v (.bool (decide (b70_ < (e58_.gTrail.length : Int)))), []))], [(1, .cells [.sl (List.map GCell.c e58_.gCells), .sl (List.map cI.i64 e58_.gTrail)] [])], []⟩ _ (by kernel_rfl) (.cons (len_obl cI.i64 e58_.gTrail) .nil) ?_
          rcases oif h77 with ⟨h78, h77⟩ | ⟨h78, h77⟩
          · refine Wc.condT h78 (by kernel_rfl) ?_
            refine Wc.fix (st' := ⟨[(1, (.ptr 1 0, [])), (3, (.v (.int .i64 (e58_.gCells.length : Int)), [])), (8, (.v (.int .i64 b70_), []))], [(1, .cells [.sl (List.map GCell.c e58_.gCells), .sl (List.map cI.i64 e58_.gTrail)] [])], []⟩) [] [1, 3, 8] [1] [] (by kernel_rfl) ?_
            refine Wc.skip ?_
            refine Wc.seq ?_
            refine Wc.block ?_
            refine Wc.seq ?_
            obtain ⟨b71_, h79, h77⟩ := obind h77
            obtain ⟨g72_, h80, h77⟩ := obind h77
            rcases oif h77 with ⟨h81, h77⟩ | ⟨h81, h77⟩
            · refine Wc.draw hmix [{}, {}, {}, { v := some (.vptr [.int .i64 b71_]) }, {}, {}, {}, { r := some (.v (.bool g72_) []) }, {}, { re := some (.bool true) }] [] [1, 3, 8, 119] [1] [] ⟨[(1, (.ptr 1 0, [])), (3, (.v (.int .i64 (e58_.gCells.length : Int)), [])), (8, (.v (.int .i64 b70_), [])), (119, (.v (.bool true), []))], [(1, .cells [.sl (List.map GCell.c e58_.gCells), .sl (List.map cI.i64 e58_.gTrail)] [])], []⟩ _ (by kernel_rfl) (fun X => by kernel_rfl) (.cons (at_obl (c := cI.i64) rfl cI.i64_len h79) (.cons (len_ok 1 [.int .i64 b71_]) (.cons (cspec_l01In h80) (.cons (congrArg AV.bool h81) .nil)))) ?_
              refine Wc.condT rfl (by kernel_rfl) ?_
              refine Wc.seq ?_
              refine Wc.region [] [] [2] [] [] ⟨[(2, (.v (.bool false), []))], [], []⟩ _ (by kernel_rfl) .nil ?_
              refine Wc.ret ?_
              obtain rfl := Option.some.inj h77
              obtain rfl := Option.some.inj h
              exact ⟨.inl rfl, by kernel_rfl, by kernel_rfl⟩
            · obtain ⟨b73_, h82, h77⟩ := obind h77
              obtain ⟨c74_, h83, h77⟩ := obind h77
              refine Wc.draw hmix [{}, {}, {}, { v := some (.vptr [.int .i64 b71_]) }, {}, {}, {}, { r := some (.v (.bool g72_) []) }, {}, { re := some (.bool false) }, {}, {}, {}, {}, {}, { v := some (.vptr [.int .i64 b73_]) }, {}, { v := some (.vptr [.int .i64 c74_.gKind, .str c74_.gName, .int .i64 c74_.gNum, .int .i64 c74_.gTo, .sl (List.map cI.i64 c74_.gKids)]) }] [] [1, 3, 8, 119] [1] [] ⟨[(1, (.ptr 1 0, [])), (3, (.v (.int .i64 (e58_.gCells.length : Int)), [])), (8, (.v (.int .i64 b70_), [])), (119, (.v (.bool (c74_.gKind != 1)), []))], [(1, .cells [.sl (List.map GCell.c e58_.gCells), .sl (List.map cI.i64 e58_.gTrail)] [])], []⟩ _ (by kernel_rfl) (fun X => by kernel_rfl) (.cons (at_obl (c := cI.i64) rfl cI.i64_len h79) (.cons (len_ok 1 [.int .i64 b71_]) (.cons (cspec_l01In h80) (.cons (congrArg AV.bool h81) (.cons (at_obl (c := cI.i64) rfl cI.i64_len h82) (.cons (len_ok 1 [.int .i64 b73_]) (.cons (at_obl (c := GCell.c) (GCell.c_eq c74_) GCell.c_len h83) (.cons (len_ok 1 [.int .i64 c74_.gKind, .str c74_.gName, .int .i64 c74_.gNum, .int .i64 c74_.gTo, .sl (List.map cI.i64 c74_.gKids)]) .nil)))))))) ?_
              rcases oif h77 with ⟨h84, h77⟩ | ⟨h84, h77⟩
              · refine Wc.condT h84 (by kernel_rfl) ?_
                refine Wc.seq ?_
                refine Wc.region [] [] [2] [] [] ⟨[(2, (.v (.bool false), []))], [], []⟩ _ (by kernel_rfl) .nil ?_
                refine Wc.ret ?_
                obtain rfl := Option.some.inj h77
                obtain rfl := Option.some.inj h
                exact ⟨.inl rfl, by kernel_rfl, by kernel_rfl⟩
              · refine Wc.condF h84 (by kernel_rfl) ?_
                refine Wc.fix (st' := ⟨[(1, (.ptr 1 0, [])), (3, (.v (.int .i64 (e58_.gCells.length : Int)), [])), (8, (.v (.int .i64 b70_), []))], [(1, .cells [.sl (List.map GCell.c e58_.gCells), .sl (List.map cI.i64 e58_.gTrail)] [])], []⟩) [] [1, 3, 8] [1] [] (by kernel_rfl) ?_
                refine Wc.skip ?_
                refine Wc.region [] [] [1, 3, 8] [1] [] ⟨[(1, (.ptr 1 0, [])), (3, (.v (.int .i64 (e58_.gCells.length : Int)), [])), (8, (.v (.int .i64 (wr.i64 (b70_ + 1))), []))], [(1, .cells [.sl (List.map GCell.c e58_.gCells), .sl (List.map cI.i64 e58_.gTrail)] [])], []⟩ _ (by kernel_rfl) .nil ?_
                exact ⟨_, Nat.lt_succ_self _, _, rfl, h77⟩
          · refine Wc.condF h78 (by kernel_rfl) ?_
            refine Wc.fix (st' := ⟨[], [], []⟩) [] [] [] [] (by kernel_rfl) ?_
            refine Wc.exit ?_
            obtain rfl := Option.some.inj h77
            exact ⟨rfl, rfl⟩
      · rintro st ⟨rfl, rfl⟩
        refine Wc.seq ?_
        refine Wc.region [] [] [2] [] [] ⟨[(2, (.v (.bool true), []))], [], []⟩ _ (by kernel_rfl) .nil ?_
        refine Wc.ret ?_
        obtain rfl := Option.some.inj h
        exact ⟨.inl rfl, by kernel_rfl, by kernel_rfl⟩

/-- (*spec.l13Heap).follow -/
def pspec_l13Heap_follow (k : Nat) (f75_ : GL13Heap) (b76_ : Int) : Option (GL13Heap × Int) :=
  (pspec_l13Follow k f75_.gCells b76_).bind fun b77_ =>
  some (f75_, b77_)
theorem cspec_l13Heap_follow {k : Nat} {f75_ : GL13Heap} {b76_ : Int} {r : GL13Heap × Int} (h : pspec_l13Heap_follow k f75_ b76_ = some r) : FnO Try.prog 114 [.p [.slx, .slx, .slx, .int .i64 f75_.gPairs] [(0, .ex 110 false (List.map GCell.c f75_.gCells)), (1, .ex 3 false (List.map cI.i64 f75_.gTrail)), (2, .ex 3 false (List.map cI.i64 f75_.gRefs))], .v (.int .i64 b76_) []] (.v (.int .i64 r.2) []) [(0, .p [.slx, .slx, .slx, .int .i64 r.1.gPairs] [(0, .ex 110 false (List.map GCell.c r.1.gCells)), (1, .ex 3 false (List.map cI.i64 r.1.gTrail)), (2, .ex 3 false (List.map cI.i64 r.1.gRefs))])] := by
  refine FnO.of Try.func114 (rfl : Try.f114.body = some _) (Nat.le_of_ble_eq_true (by kernel_rfl)) (Nat.le_of_ble_eq_true (by kernel_rfl)) ?_
  intro w0 X0 Fin pv0 pb
  unfold pspec_l13Heap_follow at h
  refine Wc.seq ?_
  refine Wc.region [] [] [0, 1] [1000000] [] ⟨[(0, (.ptr 1000000 0, [])), (1, (.v (.int .i64 b76_), []))], [(1000000, .cells [.slx, .slx, .slx, .int .i64 f75_.gPairs] [(0, .ex 110 false (List.map GCell.c f75_.gCells)), (1, .ex 3 false (List.map cI.i64 f75_.gTrail)), (2, .ex 3 false (List.map cI.i64 f75_.gRefs))])], []⟩ _ (by kernel_rfl) .nil ?_
  refine Wc.seq ?_
  obtain ⟨b77_, h85, h⟩ := obind h
  refine Wc.region [{}, {}, {}, {}, {}, { r := some (.v (.int .i64 b77_) []) }] [] [4] [1000000] [] ⟨[(4, (.v (.int .i64 b77_), []))], [(1000000, .cells [.slx, .slx, .slx, .int .i64 f75_.gPairs] [(0, .ex 110 false (List.map GCell.c f75_.gCells)), (1, .ex 3 false (List.map cI.i64 f75_.gTrail)), (2, .ex 3 false (List.map cI.i64 f75_.gRefs))])], []⟩ _ (by kernel_rfl) (.cons (cspec_l13Follow h85) .nil) ?_
  refine Wc.ret ?_
  obtain rfl := Option.some.inj h
  exact ⟨.inl rfl, by kernel_rfl, by kernel_rfl⟩

/-- (*spec.l13Heap).heap -/
def pspec_l13Heap_heap (k : Nat) (f79_ : GL13Heap) : Option (GL13Heap × GHeap) :=
  if ([] : List GCell).length + f79_.gCells.length ≤ 1073741824 then
    if ([] : List Int).length + f79_.gTrail.length ≤ 1073741824 then
      some (f79_, GHeap.mk f79_.gCells f79_.gTrail)
    else none
  else none
theorem cspec_l13Heap_heap {k : Nat} {f79_ : GL13Heap} {r : GL13Heap × GHeap} (h : pspec_l13Heap_heap k f79_ = some r) : FnO Try.prog 115 [.p [.slx, .slx, .slx, .int .i64 f79_.gPairs] [(0, .ex 110 false (List.map GCell.c f79_.gCells)), (1, .ex 3 false (List.map cI.i64 f79_.gTrail)), (2, .ex 3 false (List.map cI.i64 f79_.gRefs))]] (.v (.agg [.sl (List.map GCell.c r.2.gCells), .sl (List.map cI.i64 r.2.gTrail)]) [(0, .app 110), (1, .app 3)]) [(0, .p [.slx, .slx, .slx, .int .i64 r.1.gPairs] [(0, .ex 110 false (List.map GCell.c r.1.gCells)), (1, .ex 3 false (List.map cI.i64 r.1.gTrail)), (2, .ex 3 false (List.map cI.i64 r.1.gRefs))])] := by
  refine FnO.of Try.func115 (rfl : Try.f115.body = some _) (Nat.le_of_ble_eq_true (by kernel_rfl)) (Nat.le_of_ble_eq_true (by kernel_rfl)) ?_
  intro w0 X0 Fin pv0 pb
  unfold pspec_l13Heap_heap at h
  refine Wc.seq ?_
  refine Wc.region [] [] [0, 2] [2, 1000000] [] ⟨[(0, (.ptr 1000000 0, [])), (2, (.ptr 2 0, []))], [(2, .cells [.sl (List.map GCell.c []), .sl (List.map cI.i64 [])] [(0, .app 110), (1, .app 3)]), (1000000, .cells [.slx, .slx, .slx, .int .i64 f79_.gPairs] [(0, .ex 110 false (List.map GCell.c f79_.gCells)), (1, .ex 3 false (List.map cI.i64 f79_.gTrail)), (2, .ex 3 false (List.map cI.i64 f79_.gRefs))])], []⟩ _ (by kernel_rfl) .nil ?_
  refine Wc.seq ?_
  obtain ⟨h88, h⟩ := oguard h
  obtain ⟨h89, h⟩ := oguard h
  refine Wc.draw hmix [{ c := some (List.map GCell.c []) }, {}, {}, {}, {}, { c := some (List.map GCell.c f79_.gCells), tk := [3] }, { c := some (List.map cI.i64 []) }, {}, {}, {}, {}, { c := some (List.map cI.i64 f79_.gTrail), tk := [9] }, { tk := [8, 14] }, { tk := [15] }] [] [2] [2, 1000000] [] ⟨[(2, (.ptr 2 0, []))], [(2, .cells [.sl (List.map GCell.c f79_.gCells), .sl (List.map cI.i64 f79_.gTrail)] [(0, .app 110), (1, .app 3)]), (1000000, .cells [.slx, .slx, .slx, .int .i64 f79_.gPairs] [(0, .ex 110 false (List.map GCell.c f79_.gCells)), (1, .ex 3 false (List.map cI.i64 f79_.gTrail)), (2, .ex 3 false (List.map cI.i64 f79_.gRefs))])], []⟩ _ (by kernel_rfl) (fun X => by kernel_rfl) (.cons (cl_nil GCell.c) (.cons (app_re0 GCell.c f79_.gCells) (.cons (app_leaf (c := GCell.c) (ys := f79_.gCells) GCell.c_leaf) (.cons (app_obl2 (c := GCell.c) (xs := []) (ys := f79_.gCells) GCell.c_len h88) (.cons (cl_nil cI.i64) (.cons (app_re0 cI.i64 f79_.gTrail) (.cons (app_leaf (c := cI.i64) (ys := f79_.gTrail) cI.i64_leaf) (.cons (app_obl2 (c := cI.i64) (xs := []) (ys := f79_.gTrail) cI.i64_len h89) .nil)))))))) ?_
  refine Wc.ret ?_
  obtain rfl := Option.some.inj h
  exact ⟨.inl rfl, by kernel_rfl, by kernel_rfl⟩

/-- (*spec.l13Heap).bind -/
def pspec_l13Heap_bind (k : Nat) (f80_ : GL13Heap) (b81_ : Int) (b82_ : Int) : Option GL13Heap :=
  (at' f80_.gCells b81_).bind fun c83_ =>
  if f80_.gTrail.length + [b81_].length ≤ 1073741824 then
    some (GL13Heap.mk (f80_.gCells.set ((b81_).toNat) (GCell.mk c83_.gKind c83_.gName c83_.gNum b82_ c83_.gKids)) (f80_.gTrail ++ [b81_]) f80_.gRefs f80_.gPairs)
  else none
theorem cspec_l13Heap_bind {k : Nat} {f80_ : GL13Heap} {b81_ : Int} {b82_ : Int} {r : GL13Heap} (h : pspec_l13Heap_bind k f80_ b81_ b82_ = some r) : FnO Try.prog 116 [.p [.slx, .slx, .slx, .int .i64 f80_.gPairs] [(0, .ex 110 false (List.map GCell.c f80_.gCells)), (1, .ex 3 false (List.map cI.i64 f80_.gTrail)), (2, .ex 3 false (List.map cI.i64 f80_.gRefs))], .v (.int .i64 b81_) [], .v (.int .i64 b82_) []] (.v (.tup []) []) [(0, .p [.slx, .slx, .slx, .int .i64 r.gPairs] [(0, .ex 110 false (List.map GCell.c r.gCells)), (1, .ex 3 false (List.map cI.i64 r.gTrail)), (2, .ex 3 false (List.map cI.i64 r.gRefs))])] := by
  refine FnO.of Try.func116 (rfl : Try.f116.body = some _) (Nat.le_of_ble_eq_true (by kernel_rfl)) (Nat.le_of_ble_eq_true (by kernel_rfl)) ?_
  intro w0 X0 Fin pv0 pb
  unfold pspec_l13Heap_bind at h
  refine Wc.seq ?_
  obtain ⟨c83_, h90, h⟩ := obind h
  refine Wc.region [{}, {}, {}, {}, {}, {}, {}, {}, { c := some (List.map GCell.c (f80_.gCells.set ((b81_).toNat) (GCell.mk c83_.gKind c83_.gName c83_.gNum b82_ c83_.gKids))) }] [] [0, 1] [1000000] [] ⟨[(0, (.ptr 1000000 0, [])), (1, (.v (.int .i64 b81_), []))], [(1000000, .cells [.slx, .slx, .slx, .int .i64 f80_.gPairs] [(0, .ex 110 false (List.map GCell.c (f80_.gCells.set ((b81_).toNat) (GCell.mk c83_.gKind c83_.gName c83_.gNum b82_ c83_.gKids)))), (1, .ex 3 false (List.map cI.i64 f80_.gTrail)), (2, .ex 3 false (List.map cI.i64 f80_.gRefs))])], []⟩ _ (by kernel_rfl) (.cons (ix_obl (c := GCell.c) GCell.c_len h90) (.cons (mod_obl (off := 3) (new := [.int .i64 b82_]) (c := GCell.c) (GCell.c_eq c83_) (GCell.c_eq (GCell.mk c83_.gKind c83_.gName c83_.gNum b82_ c83_.gKids)) (at'_spec h90).2 rfl) (.cons (st_obl (sz := 5) (off := 3) (s := 1) (c := GCell.c) (GCell.c_eq c83_) (at'_spec h90).2 rfl (Nat.le_of_ble_eq_true rfl)) .nil))) ?_
  obtain ⟨h91, h⟩ := oguard h
  refine Wc.region [{}, {}, {}, {}, { md := 1 }, {}, { c := some (List.map cI.i64 [b81_]) }, { c := some (List.map cI.i64 (f80_.gTrail ++ [b81_])), tk := [18], md := 1 }, {}, {}, { tk := [21] }] [.so 1000000] [] [1000000] [] ⟨[], [(1000000, .cells [.slx, .slx, .slx, .int .i64 f80_.gPairs] [(0, .ex 110 false (List.map GCell.c (f80_.gCells.set ((b81_).toNat) (GCell.mk c83_.gKind c83_.gName c83_.gNum b82_ c83_.gKids)))), (1, .ex 3 false (List.map cI.i64 (f80_.gTrail ++ [b81_]))), (2, .ex 3 false (List.map cI.i64 f80_.gRefs))])], []⟩ _ (by kernel_rfl) (.cons (cl_cons (c := cI.i64) (x := b81_) rfl (cl_nil cI.i64)) (.cons (app_re2 cI.i64 f80_.gTrail [b81_]) (.cons (app_leaf (c := cI.i64) (ys := [b81_]) cI.i64_leaf) (.cons (app_obl2 (c := cI.i64) (xs := f80_.gTrail) (ys := [b81_]) cI.i64_len h91) .nil)))) ?_
  obtain rfl := Option.some.inj h
  exact ⟨(by first | exact .inl rfl | exact .inr rfl), by kernel_rfl, by kernel_rfl⟩

/-- spec.l13BindCellRaw -/
def pspec_l13BindCellRaw (k : Nat) (e102_ : GHeap) (b103_ : Int) (b104_ : Int) : Option (GHeap × Bool) :=
  (pspec_l13Of k e102_).bind fun f105_ =>
  (pspec_HeapOk k e102_).bind fun g106_ =>
  if (!g106_) = true then
    (pspec_l13Heap_heap k f105_).bind fun j112_ =>
    some (GHeap.mk j112_.2.gCells j112_.2.gTrail, false)
  else
    (pspec_l01In k b103_ 0 (wr.i64 ((e102_.gCells.length : Int) - 1))).bind fun g107_ =>
    if (!g107_) = true then
      (pspec_l13Heap_heap k f105_).bind fun j113_ =>
      some (GHeap.mk j113_.2.gCells j113_.2.gTrail, false)
    else
      (at' e102_.gCells b103_).bind fun c108_ =>
      if (c108_.gKind != 1) = true then
        (pspec_l13Heap_heap k f105_).bind fun j114_ =>
        some (GHeap.mk j114_.2.gCells j114_.2.gTrail, false)
      else
        (at' e102_.gCells b103_).bind fun c109_ =>
        if (decide (c109_.gTo ≥ 0)) = true then
          (pspec_l13Heap_heap k f105_).bind fun j115_ =>
          some (GHeap.mk j115_.2.gCells j115_.2.gTrail, false)
        else
          (pspec_l13Heap_follow k f105_ b104_).bind fun i110_ =>
          if (decide (i110_.2 < 0)) = true then
            (pspec_l13Heap_heap k (GL13Heap.mk i110_.1.gCells i110_.1.gTrail i110_.1.gRefs i110_.1.gPairs)).bind fun j116_ =>
            some (GHeap.mk j116_.2.gCells j116_.2.gTrail, false)
          else
            (pspec_l13Heap_follow k (GL13Heap.mk i110_.1.gCells i110_.1.gTrail i110_.1.gRefs i110_.1.gPairs) b104_).bind fun i111_ =>
            if (i111_.2 == b103_) = true then
              (pspec_l13Heap_heap k (GL13Heap.mk i111_.1.gCells i111_.1.gTrail i111_.1.gRefs i111_.1.gPairs)).bind fun j117_ =>
              some (GHeap.mk j117_.2.gCells j117_.2.gTrail, false)
            else
              (pspec_l13Heap_bind k (GL13Heap.mk i111_.1.gCells i111_.1.gTrail i111_.1.gRefs i111_.1.gPairs) b103_ b104_).bind fun f118_ =>
              (pspec_l13Heap_heap k f118_).bind fun j119_ =>
              some (GHeap.mk j119_.2.gCells j119_.2.gTrail, true)
set_option maxHeartbeats 4000000 in
theorem cspec_l13BindCellRaw {k : Nat} {e102_ : GHeap} {b103_ : Int} {b104_ : Int} {r : GHeap × Bool} (h : pspec_l13BindCellRaw k e102_ b103_ b104_ = some r) : FnO Try.prog 76 [.v (.agg [.sl (List.map GCell.c e102_.gCells), .sl (List.map cI.i64 e102_.gTrail)]) [], .v (.int .i64 b103_) [], .v (.int .i64 b104_) []] (.v (.tup [.agg [.sl (List.map GCell.c r.1.gCells), .sl (List.map cI.i64 r.1.gTrail)], .bool r.2]) [(0, .app 110), (1, .app 3)]) [] := by
  refine FnO.of Try.func76 (rfl : Try.f76.body = some _) (Nat.le_of_ble_eq_true (by kernel_rfl)) (Nat.le_of_ble_eq_true (by kernel_rfl)) ?_
  intro w0 X0 Fin pv0 pb
  unfold pspec_l13BindCellRaw at h
  refine Wc.seq ?_
  refine Wc.region [] [] [1, 2, 3, 6] [3, 6] [] ⟨[(1, (.v (.int .i64 b103_), [])), (2, (.v (.int .i64 b104_), [])), (3, (.ptr 3 0, [])), (6, (.ptr 6 0, []))], [(3, .cells [.sl (List.map GCell.c e102_.gCells), .sl (List.map cI.i64 e102_.gTrail)] []), (6, .cells [.sl (List.map GCell.c []), .sl (List.map cI.i64 [])] [(0, .app 110), (1, .app 3)])], []⟩ _ (by kernel_rfl) .nil ?_
  refine Wc.seq ?_
  obtain ⟨f105_, h113, h⟩ := obind h
  refine Wc.region [{}, { r := some (.p [.slx, .slx, .slx, .int .i64 f105_.gPairs] [(0, .ex 110 false (List.map GCell.c f105_.gCells)), (1, .ex 3 false (List.map cI.i64 f105_.gTrail)), (2, .ex 3 false (List.map cI.i64 f105_.gRefs))]) }] [] [1, 2, 3, 6, 8] [3, 6, 10] [] ⟨[(1, (.v (.int .i64 b103_), [])), (2, (.v (.int .i64 b104_), [])), (3, (.ptr 3 0, [])), (6, (.ptr 6 0, [])), (8, (.ptr 10 0, []))], [(3, .cells [.sl (List.map GCell.c e102_.gCells), .sl (List.map cI.i64 e102_.gTrail)] []), (6, .cells [.sl (List.map GCell.c []), .sl (List.map cI.i64 [])] [(0, .app 110), (1, .app 3)]), (10, .cells [.slx, .slx, .slx, .int .i64 f105_.gPairs] [(0, .ex 110 false (List.map GCell.c f105_.gCells)), (1, .ex 3 false (List.map cI.i64 f105_.gTrail)), (2, .ex 3 false (List.map cI.i64 f105_.gRefs))])], []⟩ _ (by kernel_rfl) (.cons (cspec_l13Of h113) .nil) ?_
  refine Wc.seq ?_
  refine Wc.seq ?_
  obtain ⟨g106_, h114, h⟩ := obind h
  rcases oif h with ⟨h115, h⟩ | ⟨h115, h⟩
  · refine Wc.region [{}, { r := some (.v (.bool g106_) []) }, {}, { re := some (.bool true) }] [] [1, 2, 6, 8, 53] [6, 10] [] ⟨[(1, (.v (.int .i64 b103_), [])), (2, (.v (.int .i64 b104_), [])), (6, (.ptr 6 0, [])), (8, (.ptr 10 0, [])), (53, (.v (.bool true), []))], [(6, .cells [.sl (List.map GCell.c []), .sl (List.map cI.i64 [])] [(0, .app 110), (1, .app 3)]), (10, .cells [.slx, .slx, .slx, .int .i64 f105_.gPairs] [(0, .ex 110 false (List.map GCell.c f105_.gCells)), (1, .ex 3 false (List.map cI.i64 f105_.gTrail)), (2, .ex 3 false (List.map cI.i64 f105_.gRefs))])], []⟩ _ (by kernel_rfl) (.cons (cspec_HeapOk h114) (.cons (congrArg AV.bool h115) .nil)) ?_
    refine Wc.condT rfl (by kernel_rfl) ?_
    refine Wc.seq ?_
    obtain ⟨j112_, h125, h⟩ := obind h
    refine Wc.region [{}, { r := some (.v (.agg [.sl (List.map GCell.c j112_.2.gCells), .sl (List.map cI.i64 j112_.2.gTrail)]) [(0, .app 110), (1, .app 3)]), outs := [(0, .p [.slx, .slx, .slx, .int .i64 j112_.1.gPairs] [(0, .ex 110 false (List.map GCell.c j112_.1.gCells)), (1, .ex 3 false (List.map cI.i64 j112_.1.gTrail)), (2, .ex 3 false (List.map cI.i64 j112_.1.gRefs))])] }, { tk := [55] }] [] [6, 7] [6] [] ⟨[(6, (.ptr 6 0, [])), (7, (.v (.bool false), []))], [(6, .cells [.sl (List.map GCell.c j112_.2.gCells), .sl (List.map cI.i64 j112_.2.gTrail)] [(0, .app 110), (1, .app 3)])], []⟩ _ (by kernel_rfl) (.cons (cspec_l13Heap_heap h125) .nil) ?_
    refine Wc.ret ?_
    obtain rfl := Option.some.inj h
    exact ⟨.inl rfl, by kernel_rfl, by kernel_rfl⟩
  · obtain ⟨g107_, h116, h⟩ := obind h
    rcases oif h with ⟨h117, h⟩ | ⟨h117, h⟩
    · refine Wc.region [{}, { r := some (.v (.bool g106_) []) }, {}, { re := some (.bool false) }, {}, {}, {}, { v := some (.int .i64 (e102_.gCells.length : Int)) }, {}, { r := some (.v (.bool g107_) []) }, {}, {}, { re := some (.bool true) }] [] [1, 2, 6, 8, 53] [6, 10] [] ⟨[(1, (.v (.int .i64 b103_), [])), (2, (.v (.int .i64 b104_), [])), (6, (.ptr 6 0, [])), (8, (.ptr 10 0, [])), (53, (.v (.bool true), []))], [(6, .cells [.sl (List.map GCell.c []), .sl (List.map cI.i64 [])] [(0, .app 110), (1, .app 3)]), (10, .cells [.slx, .slx, .slx, .int .i64 f105_.gPairs] [(0, .ex 110 false (List.map GCell.c f105_.gCells)), (1, .ex 3 false (List.map cI.i64 f105_.gTrail)), (2, .ex 3 false (List.map cI.i64 f105_.gRefs))])], []⟩ _ (by kernel_rfl) (.cons (cspec_HeapOk h114) (.cons (congrArg AV.bool h115) (.cons (len_obl GCell.c e102_.gCells) (.cons (cspec_l01In h116) (.cons (congrArg AV.bool h117) .nil))))) ?_
      refine Wc.condT rfl (by kernel_rfl) ?_
      refine Wc.seq ?_
      obtain ⟨j113_, h126, h⟩ := obind h
      refine Wc.region [{}, { r := some (.v (.agg [.sl (List.map GCell.c j113_.2.gCells), .sl (List.map cI.i64 j113_.2.gTrail)]) [(0, .app 110), (1, .app 3)]), outs := [(0, .p [.slx, .slx, .slx, .int .i64 j113_.1.gPairs] [(0, .ex 110 false (List.map GCell.c j113_.1.gCells)), (1, .ex 3 false (List.map cI.i64 j113_.1.gTrail)), (2, .ex 3 false (List.map cI.i64 j113_.1.gRefs))])] }, { tk := [55] }] [] [6, 7] [6] [] ⟨[(6, (.ptr 6 0, [])), (7, (.v (.bool false), []))], [(6, .cells [.sl (List.map GCell.c j113_.2.gCells), .sl (List.map cI.i64 j113_.2.gTrail)] [(0, .app 110), (1, .app 3)])], []⟩ _ (by kernel_rfl) (.cons (cspec_l13Heap_heap h126) .nil) ?_
      refine Wc.ret ?_
      obtain rfl := Option.some.inj h
      exact ⟨.inl rfl, by kernel_rfl, by kernel_rfl⟩
    · obtain ⟨c108_, h118, h⟩ := obind h
      rcases oif h with ⟨h119, h⟩ | ⟨h119, h⟩
      · refine Wc.region [{}, { r := some (.v (.bool g106_) []) }, {}, { re := some (.bool false) }, {}, {}, {}, { v := some (.int .i64 (e102_.gCells.length : Int)) }, {}, { r := some (.v (.bool g107_) []) }, {}, {}, { re := some (.bool false) }, {}, {}, {}, { v := some (.vptr [.int .i64 c108_.gKind, .str c108_.gName, .int .i64 c108_.gNum, .int .i64 c108_.gTo, .sl (List.map cI.i64 c108_.gKids)]) }, {}, {}, {}, {}, { re := some (.bool true) }] [] [1, 2, 6, 8, 53] [6, 10] [] ⟨[(1, (.v (.int .i64 b103_), [])), (2, (.v (.int .i64 b104_), [])), (6, (.ptr 6 0, [])), (8, (.ptr 10 0, [])), (53, (.v (.bool true), []))], [(6, .cells [.sl (List.map GCell.c []), .sl (List.map cI.i64 [])] [(0, .app 110), (1, .app 3)]), (10, .cells [.slx, .slx, .slx, .int .i64 f105_.gPairs] [(0, .ex 110 false (List.map GCell.c f105_.gCells)), (1, .ex 3 false (List.map cI.i64 f105_.gTrail)), (2, .ex 3 false (List.map cI.i64 f105_.gRefs))])], []⟩ _ (by kernel_rfl) (.cons (cspec_HeapOk h114) (.cons (congrArg AV.bool h115) (.cons (len_obl GCell.c e102_.gCells) (.cons (cspec_l01In h116) (.cons (congrArg AV.bool h117) (.cons (at_obl (c := GCell.c) (GCell.c_eq c108_) GCell.c_len h118) (.cons (len_ok 1 [.int .i64 c108_.gKind, .str c108_.gName, .int .i64 c108_.gNum, .int .i64 c108_.gTo, .sl (List.map cI.i64 c108_.gKids)]) (.cons (congrArg AV.bool h119) .nil)))))))) ?_
        refine Wc.condT rfl (by kernel_rfl) ?_
        refine Wc.seq ?_
        obtain ⟨j114_, h127, h⟩ := obind h
        refine Wc.region [{}, { r := some (.v (.agg [.sl (List.map GCell.c j114_.2.gCells), .sl (List.map cI.i64 j114_.2.gTrail)]) [(0, .app 110), (1, .app 3)]), outs := [(0, .p [.slx, .slx, .slx, .int .i64 j114_.1.gPairs] [(0, .ex 110 false (List.map GCell.c j114_.1.gCells)), (1, .ex 3 false (List.map cI.i64 j114_.1.gTrail)), (2, .ex 3 false (List.map cI.i64 j114_.1.gRefs))])] }, { tk := [55] }] [] [6, 7] [6] [] ⟨[(6, (.ptr 6 0, [])), (7, (.v (.bool false), []))], [(6, .cells [.sl (List.map GCell.c j114_.2.gCells), .sl (List.map cI.i64 j114_.2.gTrail)] [(0, .app 110), (1, .app 3)])], []⟩ _ (by kernel_rfl) (.cons (cspec_l13Heap_heap h127) .nil) ?_
        refine Wc.ret ?_
        obtain rfl := Option.some.inj h
        exact ⟨.inl rfl, by kernel_rfl, by kernel_rfl⟩
      · obtain ⟨c109_, h120, h⟩ := obind h
        rcases oif h with ⟨h121, h⟩ | ⟨h121, h⟩
        · refine Wc.region [{}, { r := some (.v (.bool g106_) []) }, {}, { re := some (.bool false) }, {}, {}, {}, { v := some (.int .i64 (e102_.gCells.length : Int)) }, {}, { r := some (.v (.bool g107_) []) }, {}, {}, { re := some (.bool false) }, {}, {}, {}, { v := some (.vptr [.int .i64 c108_.gKind, .str c108_.gName, .int .i64 c108_.gNum, .int .i64 c108_.gTo, .sl (List.map cI.i64 c108_.gKids)]) }, {}, {}, {}, {}, { re := some (.bool false) }, {}, {}, {}, { v := some (.vptr [.int .i64 c109_.gKind, .str c109_.gName, .int .i64 c109_.gNum, .int .i64 c109_.gTo, .sl (List.map cI.i64 c109_.gKids)]) }, {}, {}, {}, {}, { re := some (.bool true) }] [] [1, 2, 6, 8, 53] [6, 10] [] ⟨[(1, (.v (.int .i64 b103_), [])), (2, (.v (.int .i64 b104_), [])), (6, (.ptr 6 0, [])), (8, (.ptr 10 0, [])), (53, (.v (.bool true), []))], [(6, .cells [.sl (List.map GCell.c []), .sl (List.map cI.i64 [])] [(0, .app 110), (1, .app 3)]), (10, .cells [.slx, .slx, .slx, .int .i64 f105_.gPairs] [(0, .ex 110 false (List.map GCell.c f105_.gCells)), (1, .ex 3 false (List.map cI.i64 f105_.gTrail)), (2, .ex 3 false (List.map cI.i64 f105_.gRefs))])], []⟩ _ (by kernel_rfl) (.cons (cspec_HeapOk h114) (.cons (congrArg AV.bool h115) (.cons (len_obl GCell.c e102_.gCells) (.cons (cspec_l01In h116) (.cons (congrArg AV.bool h117) (.cons (at_obl (c := GCell.c) (GCell.c_eq c108_) GCell.c_len h118) (.cons (len_ok 1 [.int .i64 c108_.gKind, .str c108_.gName, .int .i64 c108_.gNum, .int .i64 c108_.gTo, .sl (List.map cI.i64 c108_.gKids)]) (.cons (congrArg AV.bool h119) (.cons (at_obl (c := GCell.c) (GCell.c_eq c109_) GCell.c_len h120) (.cons (len_ok 1 [.int .i64 c109_.gTo, .sl (List.map cI.i64 c109_.gKids)]) (.cons (congrArg AV.bool h121) .nil))))))))))) ?_
          refine Wc.condT rfl (by kernel_rfl) ?_
          refine Wc.seq ?_
          obtain ⟨j115_, h128, h⟩ := obind h
          refine Wc.region [{}, { r := some (.v (.agg [.sl (List.map GCell.c j115_.2.gCells), .sl (List.map cI.i64 j115_.2.gTrail)]) [(0, .app 110), (1, .app 3)]), outs := [(0, .p [.slx, .slx, .slx, .int .i64 j115_.1.gPairs] [(0, .ex 110 false (List.map GCell.c j115_.1.gCells)), (1, .ex 3 false (List.map cI.i64 j115_.1.gTrail)), (2, .ex 3 false (List.map cI.i64 j115_.1.gRefs))])] }, { tk := [55] }] [] [6, 7] [6] [] ⟨[(6, (.ptr 6 0, [])), (7, (.v (.bool false), []))], [(6, .cells [.sl (List.map GCell.c j115_.2.gCells), .sl (List.map cI.i64 j115_.2.gTrail)] [(0, .app 110), (1, .app 3)])], []⟩ _ (by kernel_rfl) (.cons (cspec_l13Heap_heap h128) .nil) ?_
          refine Wc.ret ?_
          obtain rfl := Option.some.inj h
          exact ⟨.inl rfl, by kernel_rfl, by kernel_rfl⟩
        · obtain ⟨i110_, h122, h⟩ := obind h
          rcases oif h with ⟨h123, h⟩ | ⟨h123, h⟩
          · refine Wc.region [{}, { r := some (.v (.bool g106_) []) }, {}, { re := some (.bool false) }, {}, {}, {}, { v := some (.int .i64 (e102_.gCells.length : Int)) }, {}, { r := some (.v (.bool g107_) []) }, {}, {}, { re := some (.bool false) }, {}, {}, {}, { v := some (.vptr [.int .i64 c108_.gKind, .str c108_.gName, .int .i64 c108_.gNum, .int .i64 c108_.gTo, .sl (List.map cI.i64 c108_.gKids)]) }, {}, {}, {}, {}, { re := some (.bool false) }, {}, {}, {}, { v := some (.vptr [.int .i64 c109_.gKind, .str c109_.gName, .int .i64 c109_.gNum, .int .i64 c109_.gTo, .sl (List.map cI.i64 c109_.gKids)]) }, {}, {}, {}, {}, { re := some (.bool false) }, {}, {}, { r := some (.v (.int .i64 i110_.2) []), outs := [(0, .p [.slx, .slx, .slx, .int .i64 i110_.1.gPairs] [(0, .ex 110 false (List.map GCell.c i110_.1.gCells)), (1, .ex 3 false (List.map cI.i64 i110_.1.gTrail)), (2, .ex 3 false (List.map cI.i64 i110_.1.gRefs))])] }, {}, {}, { re := some (.bool true) }] [] [1, 2, 6, 8, 53] [6, 10] [] ⟨[(1, (.v (.int .i64 b103_), [])), (2, (.v (.int .i64 b104_), [])), (6, (.ptr 6 0, [])), (8, (.ptr 10 0, [])), (53, (.v (.bool true), []))], [(6, .cells [.sl (List.map GCell.c []), .sl (List.map cI.i64 [])] [(0, .app 110), (1, .app 3)]), (10, .cells [.slx, .slx, .slx, .int .i64 i110_.1.gPairs] [(0, .ex 110 false (List.map GCell.c i110_.1.gCells)), (1, .ex 3 false (List.map cI.i64 i110_.1.gTrail)), (2, .ex 3 false (List.map cI.i64 i110_.1.gRefs))])], []⟩ _ (by kernel_rfl) (.cons (cspec_HeapOk h114) (.cons (congrArg AV.bool h115) (.cons (len_obl GCell.c e102_.gCells) (.cons (cspec_l01In h116) (.cons (congrArg AV.bool h117) (.cons (at_obl (c := GCell.c) (GCell.c_eq c108_) GCell.c_len h118) (.cons (len_ok 1 [.int .i64 c108_.gKind, .str c108_.gName, .int .i64 c108_.gNum, .int .i64 c108_.gTo, .sl (List.map cI.i64 c108_.gKids)]) (.cons (congrArg AV.bool h119) (.cons (at_obl (c := GCell.c) (GCell.c_eq c109_) GCell.c_len h120) (.cons (len_ok 1 [.int .i64 c109_.gTo, .sl (List.map cI.i64 c109_.gKids)]) (.cons (congrArg AV.bool h121) (.cons (cspec_l13Heap_follow h122) (.cons (congrArg AV.bool h123) .nil))))))))))))) ?_
            refine Wc.condT rfl (by kernel_rfl) ?_
            refine Wc.seq ?_
            obtain ⟨j116_, h129, h⟩ := obind h
            refine Wc.region [{}, { r := some (.v (.agg [.sl (List.map GCell.c j116_.2.gCells), .sl (List.map cI.i64 j116_.2.gTrail)]) [(0, .app 110), (1, .app 3)]), outs := [(0, .p [.slx, .slx, .slx, .int .i64 j116_.1.gPairs] [(0, .ex 110 false (List.map GCell.c j116_.1.gCells)), (1, .ex 3 false (List.map cI.i64 j116_.1.gTrail)), (2, .ex 3 false (List.map cI.i64 j116_.1.gRefs))])] }, { tk := [55] }] [] [6, 7] [6] [] ⟨[(6, (.ptr 6 0, [])), (7, (.v (.bool false), []))], [(6, .cells [.sl (List.map GCell.c j116_.2.gCells), .sl (List.map cI.i64 j116_.2.gTrail)] [(0, .app 110), (1, .app 3)])], []⟩ _ (by kernel_rfl) (.cons (cspec_l13Heap_heap h129) .nil) ?_
            refine Wc.ret ?_
            obtain rfl := Option.some.inj h
            exact ⟨.inl rfl, by kernel_rfl, by kernel_rfl⟩
          · obtain ⟨i111_, h124, h⟩ := obind h
            refine Wc.region [{}, { r := some (.v (.bool g106_) []) }, {}, { re := some (.bool false) }, {}, {}, {}, { v := some (.int .i64 (e102_.gCells.length : Int)) }, {}, { r := some (.v (.bool g107_) []) }, {}, {}, { re := some (.bool false) }, {}, {}, {}, { v := some (.vptr [.int .i64 c108_.gKind, .str c108_.gName, .int .i64 c108_.gNum, .int .i64 c108_.gTo, .sl (List.map cI.i64 c108_.gKids)]) }, {}, {}, {}, {}, { re := some (.bool false) }, {}, {}, {}, { v := some (.vptr [.int .i64 c109_.gKind, .str c109_.gName, .int .i64 c109_.gNum, .int .i64 c109_.gTo, .sl (List.map cI.i64 c109_.gKids)]) }, {}, {}, {}, {}, { re := some (.bool false) }, {}, {}, { r := some (.v (.int .i64 i110_.2) []), outs := [(0, .p [.slx, .slx, .slx, .int .i64 i110_.1.gPairs] [(0, .ex 110 false (List.map GCell.c i110_.1.gCells)), (1, .ex 3 false (List.map cI.i64 i110_.1.gTrail)), (2, .ex 3 false (List.map cI.i64 i110_.1.gRefs))])] }, {}, {}, { re := some (.bool false) }, {}, {}, { r := some (.v (.int .i64 i111_.2) []), outs := [(0, .p [.slx, .slx, .slx, .int .i64 i111_.1.gPairs] [(0, .ex 110 false (List.map GCell.c i111_.1.gCells)), (1, .ex 3 false (List.map cI.i64 i111_.1.gTrail)), (2, .ex 3 false (List.map cI.i64 i111_.1.gRefs))])] }] [] [1, 2, 6, 8, 53] [6, 10] [] ⟨[(1, (.v (.int .i64 b103_), [])), (2, (.v (.int .i64 b104_), [])), (6, (.ptr 6 0, [])), (8, (.ptr 10 0, [])), (53, (.v (.bool (i111_.2 == b103_)), []))], [(6, .cells [.sl (List.map GCell.c []), .sl (List.map cI.i64 [])] [(0, .app 110), (1, .app 3)]), (10, .cells [.slx, .slx, .slx, .int .i64 i111_.1.gPairs] [(0, .ex 110 false (List.map GCell.c i111_.1.gCells)), (1, .ex 3 false (List.map cI.i64 i111_.1.gTrail)), (2, .ex 3 false (List.map cI.i64 i111_.1.gRefs))])], []⟩ _ (by kernel_rfl) (.cons (cspec_HeapOk h114) (.cons (congrArg AV.bool h115) (.cons (len_obl GCell.c e102_.gCells) (.cons (cspec_l01In h116) (.cons (congrArg AV.bool h117) (.cons (at_obl (c := GCell.c) (GCell.c_eq c108_) GCell.c_len h118) (.cons (len_ok 1 [.int .i64 c108_.gKind, .str c108_.gName, .int .i64 c108_.gNum, .int .i64 c108_.gTo, .sl (List.map cI.i64 c108_.gKids)]) (.cons (congrArg AV.bool h119) (.cons (at_obl (c := GCell.c) (GCell.c_eq c109_) GCell.c_len h120) (.cons (len_ok 1 [.int .i64 c109_.gTo, .sl (List.map cI.i64 c109_.gKids)]) (.cons (congrArg AV.bool h121) (.cons (cspec_l13Heap_follow h122) (.cons (congrArg AV.bool h123) (.cons (cspec_l13Heap_follow h124) .nil)))))))))))))) ?_
            rcases oif h with ⟨h130, h⟩ | ⟨h130, h⟩
            · refine Wc.condT h130 (by kernel_rfl) ?_
              refine Wc.seq ?_
              obtain ⟨j117_, h131, h⟩ := obind h
              refine Wc.region [{}, { r := some (.v (.agg [.sl (List.map GCell.c j117_.2.gCells), .sl (List.map cI.i64 j117_.2.gTrail)]) [(0, .app 110), (1, .app 3)]), outs := [(0, .p [.slx, .slx, .slx, .int .i64 j117_.1.gPairs] [(0, .ex 110 false (List.map GCell.c j117_.1.gCells)), (1, .ex 3 false (List.map cI.i64 j117_.1.gTrail)), (2, .ex 3 false (List.map cI.i64 j117_.1.gRefs))])] }, { tk := [55] }] [] [6, 7] [6] [] ⟨[(6, (.ptr 6 0, [])), (7, (.v (.bool false), []))], [(6, .cells [.sl (List.map GCell.c j117_.2.gCells), .sl (List.map cI.i64 j117_.2.gTrail)] [(0, .app 110), (1, .app 3)])], []⟩ _ (by kernel_rfl) (.cons (cspec_l13Heap_heap h131) .nil) ?_
              refine Wc.ret ?_
              obtain rfl := Option.some.inj h
              exact ⟨.inl rfl, by kernel_rfl, by kernel_rfl⟩
            · refine Wc.condF h130 (by kernel_rfl) ?_
              refine Wc.fix (st' := ⟨[(1, (.v (.int .i64 b103_), [])), (2, (.v (.int .i64 b104_), [])), (6, (.ptr 6 0, [])), (8, (.ptr 10 0, []))], [(6, .cells [.sl (List.map GCell.c []), .sl (List.map cI.i64 [])] [(0, .app 110), (1, .app 3)]), (10, .cells [.slx, .slx, .slx, .int .i64 i111_.1.gPairs] [(0, .ex 110 false (List.map GCell.c i111_.1.gCells)), (1, .ex 3 false (List.map cI.i64 i111_.1.gTrail)), (2, .ex 3 false (List.map cI.i64 i111_.1.gRefs))])], []⟩) [] [1, 2, 6, 8] [6, 10] [] (by kernel_rfl) ?_
              refine Wc.skip ?_
              refine Wc.seq ?_
              obtain ⟨f118_, h132, h⟩ := obind h
              refine Wc.region [{}, {}, {}, { r := some (.v (.tup []) []), outs := [(0, .p [.slx, .slx, .slx, .int .i64 f118_.gPairs] [(0, .ex 110 false (List.map GCell.c f118_.gCells)), (1, .ex 3 false (List.map cI.i64 f118_.gTrail)), (2, .ex 3 false (List.map cI.i64 f118_.gRefs))])] }] [] [6, 8] [6, 10] [] ⟨[(6, (.ptr 6 0, [])), (8, (.ptr 10 0, []))], [(6, .cells [.sl (List.map GCell.c []), .sl (List.map cI.i64 [])] [(0, .app 110), (1, .app 3)]), (10, .cells [.slx, .slx, .slx, .int .i64 f118_.gPairs] [(0, .ex 110 false (List.map GCell.c f118_.gCells)), (1, .ex 3 false (List.map cI.i64 f118_.gTrail)), (2, .ex 3 false (List.map cI.i64 f118_.gRefs))])], []⟩ _ (by kernel_rfl) (.cons (cspec_l13Heap_bind h132) .nil) ?_
              refine Wc.seq ?_
              obtain ⟨j119_, h133, h⟩ := obind h
              refine Wc.region [{}, { r := some (.v (.agg [.sl (List.map GCell.c j119_.2.gCells), .sl (List.map cI.i64 j119_.2.gTrail)]) [(0, .app 110), (1, .app 3)]), outs := [(0, .p [.slx, .slx, .slx, .int .i64 j119_.1.gPairs] [(0, .ex 110 false (List.map GCell.c j119_.1.gCells)), (1, .ex 3 false (List.map cI.i64 j119_.1.gTrail)), (2, .ex 3 false (List.map cI.i64 j119_.1.gRefs))])] }, { tk := [61] }] [] [6, 7] [6] [] ⟨[(6, (.ptr 6 0, [])), (7, (.v (.bool true), []))], [(6, .cells [.sl (List.map GCell.c j119_.2.gCells), .sl (List.map cI.i64 j119_.2.gTrail)] [(0, .app 110), (1, .app 3)])], []⟩ _ (by kernel_rfl) (.cons (cspec_l13Heap_heap h133) .nil) ?_
              refine Wc.ret ?_
              obtain rfl := Option.some.inj h
              exact ⟨.inl rfl, by kernel_rfl, by kernel_rfl⟩

/-- spec.l34Ints -/
def pspec_l34Ints (k : Nat) (a121_ : List Int) : Option (List Int) :=
  if ([] : List Int).length + a121_.length ≤ 1073741824 then
    some a121_
  else none
theorem cspec_l34Ints {k : Nat} {a121_ : List Int} {r : (List Int)} (h : pspec_l34Ints k a121_ = some r) : FnO Try.prog 118 [.v (.sl (List.map cI.i64 a121_)) []] (.v (.sl (List.map cI.i64 r)) [(0, .app 3)]) [] := by
  refine FnO.of Try.func118 (rfl : Try.f118.body = some _) (Nat.le_of_ble_eq_true (by kernel_rfl)) (Nat.le_of_ble_eq_true (by kernel_rfl)) ?_
  intro w0 X0 Fin pv0 pb
  unfold pspec_l34Ints at h
  refine Wc.seq ?_
  refine Wc.region [] [] [0] [] [] ⟨[(0, (.v (.sl (List.map cI.i64 a121_)), []))], [], []⟩ _ (by kernel_rfl) .nil ?_
  refine Wc.seq ?_
  obtain ⟨h135, h⟩ := oguard h
  refine Wc.region [{ c := some (List.map cI.i64 []) }, {}, { c := some (List.map cI.i64 a121_), tk := [3] }, { tk := [5] }] [] [2] [] [] ⟨[(2, (.v (.sl (List.map cI.i64 a121_)), [(0, .app 3)]))], [], []⟩ _ (by kernel_rfl) (.cons (cl_nil cI.i64) (.cons (app_re0 cI.i64 a121_) (.cons (app_leaf (c := cI.i64) (ys := a121_) cI.i64_leaf) (.cons (app_obl2 (c := cI.i64) (xs := []) (ys := a121_) cI.i64_len h135) .nil)))) ?_
  refine Wc.ret ?_
  obtain rfl := Option.some.inj h
  exact ⟨.inl rfl, by kernel_rfl, by kernel_rfl⟩

/-- spec.l34Cell -/
def pspec_l34Cell (k : Nat) (c124_ : GCell) : Option GCell :=
  (pspec_l34Ints k c124_.gKids).bind fun l125_ =>
  some (GCell.mk c124_.gKind c124_.gName c124_.gNum c124_.gTo l125_)
theorem cspec_l34Cell {k : Nat} {c124_ : GCell} {r : GCell} (h : pspec_l34Cell k c124_ = some r) : FnO Try.prog 134 [.v (.agg [.int .i64 c124_.gKind, .str c124_.gName, .int .i64 c124_.gNum, .int .i64 c124_.gTo, .sl (List.map cI.i64 c124_.gKids)]) []] (.v (.agg [.int .i64 r.gKind, .str r.gName, .int .i64 r.gNum, .int .i64 r.gTo, .sl (List.map cI.i64 r.gKids)]) [(4, .app 3)]) [] := by
  refine FnO.of Try.func134 (rfl : Try.f134.body = some _) (Nat.le_of_ble_eq_true (by kernel_rfl)) (Nat.le_of_ble_eq_true (by kernel_rfl)) ?_
  intro w0 X0 Fin pv0 pb
  unfold pspec_l34Cell at h
  refine Wc.seq ?_
  refine Wc.region [] [] [1, 2] [1, 2] [] ⟨[(1, (.ptr 1 0, [])), (2, (.ptr 2 0, []))], [(1, .cells [.int .i64 c124_.gKind, .str c124_.gName, .int .i64 c124_.gNum, .int .i64 c124_.gTo, .sl (List.map cI.i64 c124_.gKids)] []), (2, .cells [.int .i64 0, .str (bs []), .int .i64 0, .int .i64 0, .sl (List.map cI.i64 [])] [(4, .app 3)])], []⟩ _ (by kernel_rfl) .nil ?_
  refine Wc.seq ?_
  obtain ⟨l125_, h137, h⟩ := obind h
  refine Wc.region [{}, {}, { r := some (.v (.sl (List.map cI.i64 l125_)) [(0, .app 3)]) }, {}, { tk := [5] }] [] [1, 2] [1, 2] [] ⟨[(1, (.ptr 1 0, [])), (2, (.ptr 2 0, []))], [(1, .cells [.int .i64 c124_.gKind, .str c124_.gName, .int .i64 c124_.gNum, .int .i64 c124_.gTo, .sl (List.map cI.i64 l125_)] [(4, .app 3)]), (2, .cells [.int .i64 0, .str (bs []), .int .i64 0, .int .i64 0, .sl (List.map cI.i64 [])] [(4, .app 3)])], []⟩ _ (by kernel_rfl) (.cons (cspec_l34Ints h137) .nil) ?_
  refine Wc.seq ?_
  refine Wc.region [{ md := 1 }, { tk := [7] }] [] [2] [2] [] ⟨[(2, (.ptr 2 0, []))], [(2, .cells [.int .i64 c124_.gKind, .str c124_.gName, .int .i64 c124_.gNum, .int .i64 c124_.gTo, .sl (List.map cI.i64 l125_)] [(4, .app 3)])], []⟩ _ (by kernel_rfl) .nil ?_
  refine Wc.ret ?_
  obtain rfl := Option.some.inj h
  exact ⟨.inl rfl, by kernel_rfl, by kernel_rfl⟩

def pspec_l34Cells_L1 (k : Nat) (d132_ : List GCell) : Nat → (List GCell) → Int → Option (Out (List GCell) (List GCell))
  | 0, _, _ => none
  | m + 1, d133_, b134_ =>
    if (decide (b134_ < (d132_.length : Int))) = true then
      (at' d132_ b134_).bind fun c136_ =>
      (pspec_l34Cell k c136_).bind fun c137_ =>
      if d133_.length + [c137_].length ≤ 1073741824 then
        pspec_l34Cells_L1 k d132_ m (d133_ ++ [c137_]) (wr.i64 (b134_ + 1))
      else none
    else
      some (.done d133_)
/-- spec.l34Cells -/
def pspec_l34Cells (k : Nat) (d132_ : List GCell) : Option (List GCell) :=
  (pspec_l34Cells_L1 k d132_ k [] 0).bind fun out1 => match out1 with
  | .ret r => some r
  | .done d135_ =>
    some d135_
theorem cspec_l34Cells {k : Nat} {d132_ : List GCell} {r : (List GCell)} (h : pspec_l34Cells k d132_ = some r) : FnO Try.prog 117 [.v (.sl (List.map GCell.c d132_)) []] (.v (.sl (List.map GCell.c r)) [(0, .app 110)]) [] := by
  refine FnO.of Try.func117 (rfl : Try.f117.body = some _) (Nat.le_of_ble_eq_true (by kernel_rfl)) (Nat.le_of_ble_eq_true (by kernel_rfl)) ?_
  intro w0 X0 Fin pv0 pb
  unfold pspec_l34Cells at h
  refine Wc.seq ?_
  refine Wc.region [] [] [0] [] [] ⟨[(0, (.v (.sl (List.map GCell.c d132_)), []))], [], []⟩ _ (by kernel_rfl) .nil ?_
  refine Wc.seq ?_
  refine Wc.region [{ c := some (List.map GCell.c []) }, { tk := [5] }] [] [0, 3] [] [] ⟨[(0, (.v (.sl (List.map GCell.c d132_)), [])), (3, (.v (.sl (List.map GCell.c [])), [(0, .app 110)]))], [], []⟩ _ (by kernel_rfl) (.cons (cl_nil GCell.c) .nil) ?_
  refine Wc.seq ?_
  refine Wc.seq ?_
  refine Wc.region [] [] [0, 3, 4] [] [] ⟨[(0, (.v (.sl (List.map GCell.c d132_)), [])), (3, (.v (.sl (List.map GCell.c [])), [(0, .app 110)])), (4, (.v (.int .i64 0), []))], [], []⟩ _ (by kernel_rfl) .nil ?_
  obtain ⟨out1, h143, h⟩ := obind h
  refine Wc.lastJ (fun st => ∃ (d135_ : List GCell), out1 = .done d135_ ∧ st = ⟨[(3, (.v (.sl (List.map GCell.c d135_)), [(0, .app 110)]))], [], []⟩) ?_ ?_
  · refine Wc.block ?_
    refine Wc.loop (fun m st => ∃ (d133_ : List GCell) (b134_ : Int), st = ⟨[(0, (.v (.sl (List.map GCell.c d132_)), [])), (3, (.v (.sl (List.map GCell.c d133_)), [(0, .app 110)])), (4, (.v (.int .i64 b134_), []))], [], []⟩ ∧ pspec_l34Cells_L1 k d132_ m d133_ b134_ = some out1) ?_ k ⟨_, _, rfl, h143⟩
    rintro m st ⟨d133_, b134_, rfl, h143⟩
    cases m with
    | zero => exact (onone h143).elim
    | succ m =>
      refine Wc.seq ?_
      refine Wc.seq ?_
      refine Wc.region [{}, {}, { v := some (.int .i64 (d132_.length : Int)) }] [] [0, 3, 4, 9] [] [] ⟨[(0, (.v (.sl (List.map GCell.c d132_)), [])), (3, (.v (.sl (List.map GCell.c d133_)), [(0, .app 110)])), (4, (.v (.int .i64 b134_), [])), (9, (.v (.bool (decide (b134_ < (d132_.length : Int)))), []))], [], []⟩ _ (by kernel_rfl) (.cons (len_obl GCell.c d132_) .nil) ?_
      rcases oif h143 with ⟨h144, h143⟩ | ⟨h144, h143⟩
      · refine Wc.condT h144 (by kernel_rfl) ?_
        refine Wc.fix (st' := ⟨[(0, (.v (.sl (List.map GCell.c d132_)), [])), (3, (.v (.sl (List.map GCell.c d133_)), [(0, .app 110)])), (4, (.v (.int .i64 b134_), []))], [], []⟩) [] [0, 3, 4] [] [] (by kernel_rfl) ?_
        refine Wc.skip ?_
        refine Wc.seq ?_
        refine Wc.block ?_
        obtain ⟨c136_, h145, h143⟩ := obind h143
        obtain ⟨c137_, h146, h143⟩ := obind h143
        obtain ⟨h147, h143⟩ := oguard h143
        refine Wc.region [{ tk := [3] }, {}, {}, { v := some (.vptr [.int .i64 c136_.gKind, .str c136_.gName, .int .i64 c136_.gNum, .int .i64 c136_.gTo, .sl (List.map cI.i64 c136_.gKids)]) }, {}, { r := some (.v (.agg [.int .i64 c137_.gKind, .str c137_.gName, .int .i64 c137_.gNum, .int .i64 c137_.gTo, .sl (List.map cI.i64 c137_.gKids)]) [(4, .app 3)]) }, { c := some (List.map GCell.c [c137_]) }, { c := some (List.map GCell.c (d133_ ++ [c137_])), tk := [12] }, { tk := [19] }] [] [0, 3, 4] [] [] ⟨[(0, (.v (.sl (List.map GCell.c d132_)), [])), (3, (.v (.sl (List.map GCell.c (d133_ ++ [c137_]))), [(0, .app 110)])), (4, (.v (.int .i64 b134_), []))], [], []⟩ _ (by kernel_rfl) (.cons (at_obl (c := GCell.c) (GCell.c_eq c136_) GCell.c_len h145) (.cons (len_ok 5 [.int .i64 c136_.gKind, .str c136_.gName, .int .i64 c136_.gNum, .int .i64 c136_.gTo, .sl (List.map cI.i64 c136_.gKids)]) (.cons (cspec_l34Cell h146) (.cons (cl_cons (c := GCell.c) (x := c137_) (GCell.c_eq c137_) (cl_nil GCell.c)) (.cons (app_re2 GCell.c d133_ [c137_]) (.cons (app_leaf (c := GCell.c) (ys := [c137_]) GCell.c_leaf) (.cons (app_obl2 (c := GCell.c) (xs := d133_) (ys := [c137_]) GCell.c_len h147) .nil))))))) ?_
        refine Wc.region [] [] [0, 3, 4] [] [] ⟨[(0, (.v (.sl (List.map GCell.c d132_)), [])), (3, (.v (.sl (List.map GCell.c (d133_ ++ [c137_]))), [(0, .app 110)])), (4, (.v (.int .i64 (wr.i64 (b134_ + 1))), []))], [], []⟩ _ (by kernel_rfl) .nil ?_
        exact ⟨_, Nat.lt_succ_self _, _, _, rfl, h143⟩
      · refine Wc.condF h144 (by kernel_rfl) ?_
        refine Wc.fix (st' := ⟨[(3, (.v (.sl (List.map GCell.c d133_)), [(0, .app 110)]))], [], []⟩) [] [3] [] [] (by kernel_rfl) ?_
        refine Wc.exit ?_
        obtain rfl := Option.some.inj h143
        exact ⟨_, rfl, rfl⟩
  · rintro st ⟨d135_, rfl, rfl⟩
    refine Wc.seq ?_
    refine Wc.region [{ tk := [3] }, { tk := [20] }] [] [2] [] [] ⟨[(2, (.v (.sl (List.map GCell.c d135_)), [(0, .app 110)]))], [], []⟩ _ (by kernel_rfl) .nil ?_
    refine Wc.ret ?_
    obtain rfl := Option.some.inj h
    exact ⟨.inl rfl, by kernel_rfl, by kernel_rfl⟩

/-- spec.l34Heap -/
def pspec_l34Heap (k : Nat) (e141_ : GHeap) : Option GHeap :=
  (pspec_l34Cells k e141_.gCells).bind fun m142_ =>
  (pspec_l34Ints k e141_.gTrail).bind fun l143_ =>
  some (GHeap.mk m142_ l143_)
theorem cspec_l34Heap {k : Nat} {e141_ : GHeap} {r : GHeap} (h : pspec_l34Heap k e141_ = some r) : FnO Try.prog 77 [.v (.agg [.sl (List.map GCell.c e141_.gCells), .sl (List.map cI.i64 e141_.gTrail)]) []] (.v (.agg [.sl (List.map GCell.c r.gCells), .sl (List.map cI.i64 r.gTrail)]) [(0, .app 110), (1, .app 3)]) [] := by
  refine FnO.of Try.func77 (rfl : Try.f77.body = some _) (Nat.le_of_ble_eq_true (by kernel_rfl)) (Nat.le_of_ble_eq_true (by kernel_rfl)) ?_
  intro w0 X0 Fin pv0 pb
  unfold pspec_l34Heap at h
  refine Wc.seq ?_
  refine Wc.region [] [] [1, 2] [1, 2] [] ⟨[(1, (.ptr 1 0, [])), (2, (.ptr 2 0, []))], [(1, .cells [.sl (List.map GCell.c e141_.gCells), .sl (List.map cI.i64 e141_.gTrail)] []), (2, .cells [.sl (List.map GCell.c []), .sl (List.map cI.i64 [])] [(0, .app 110), (1, .app 3)])], []⟩ _ (by kernel_rfl) .nil ?_
  refine Wc.seq ?_
  obtain ⟨m142_, h150, h⟩ := obind h
  refine Wc.region [{}, {}, { r := some (.v (.sl (List.map GCell.c m142_)) [(0, .app 110)]) }, {}, { tk := [5] }] [] [1, 2] [1, 2] [] ⟨[(1, (.ptr 1 0, [])), (2, (.ptr 2 0, []))], [(1, .cells [.sl (List.map GCell.c m142_), .sl (List.map cI.i64 e141_.gTrail)] [(0, .app 110)]), (2, .cells [.sl (List.map GCell.c []), .sl (List.map cI.i64 [])] [(0, .app 110), (1, .app 3)])], []⟩ _ (by kernel_rfl) (.cons (cspec_l34Cells h150) .nil) ?_
  refine Wc.seq ?_
  obtain ⟨l143_, h151, h⟩ := obind h
  refine Wc.region [{}, {}, { r := some (.v (.sl (List.map cI.i64 l143_)) [(0, .app 3)]) }, {}, { tk := [9] }] [] [1, 2] [1, 2] [] ⟨[(1, (.ptr 1 0, [])), (2, (.ptr 2 0, []))], [(1, .cells [.sl (List.map GCell.c m142_), .sl (List.map cI.i64 l143_)] [(0, .app 110), (1, .app 3)]), (2, .cells [.sl (List.map GCell.c []), .sl (List.map cI.i64 [])] [(0, .app 110), (1, .app 3)])], []⟩ _ (by kernel_rfl) (.cons (cspec_l34Ints h151) .nil) ?_
  refine Wc.seq ?_
  refine Wc.region [{ md := 1 }, { tk := [11] }] [] [2] [2] [] ⟨[(2, (.ptr 2 0, []))], [(2, .cells [.sl (List.map GCell.c m142_), .sl (List.map cI.i64 l143_)] [(0, .app 110), (1, .app 3)])], []⟩ _ (by kernel_rfl) .nil ?_
  refine Wc.ret ?_
  obtain rfl := Option.some.inj h
  exact ⟨.inl rfl, by kernel_rfl, by kernel_rfl⟩

/-- spec.BindCell -/
def pspec_BindCell (k : Nat) (e149_ : GHeap) (b150_ : Int) (b151_ : Int) : Option (GHeap × Bool) :=
  (pspec_l13BindCellRaw k e149_ b150_ b151_).bind fun n152_ =>
  (pspec_l34Heap k (GHeap.mk n152_.1.gCells n152_.1.gTrail)).bind fun e153_ =>
  some (e153_, n152_.2)
theorem cspec_BindCell {k : Nat} {e149_ : GHeap} {b150_ : Int} {b151_ : Int} {r : GHeap × Bool} (h : pspec_BindCell k e149_ b150_ b151_ = some r) : FnO Try.prog 37 [.v (.agg [.sl (List.map GCell.c e149_.gCells), .sl (List.map cI.i64 e149_.gTrail)]) [], .v (.int .i64 b150_) [], .v (.int .i64 b151_) []] (.v (.tup [.agg [.sl (List.map GCell.c r.1.gCells), .sl (List.map cI.i64 r.1.gTrail)], .bool r.2]) [(0, .app 110), (1, .app 3)]) [] := by
  refine FnO.of Try.func37 (rfl : Try.f37.body = some _) (Nat.le_of_ble_eq_true (by kernel_rfl)) (Nat.le_of_ble_eq_true (by kernel_rfl)) ?_
  intro w0 X0 Fin pv0 pb
  unfold pspec_BindCell at h
  refine Wc.seq ?_
  refine Wc.region [] [] [1, 2, 3, 6] [3, 6] [] ⟨[(1, (.v (.int .i64 b150_), [])), (2, (.v (.int .i64 b151_), [])), (3, (.ptr 3 0, [])), (6, (.ptr 6 0, []))], [(3, .cells [.sl (List.map GCell.c e149_.gCells), .sl (List.map cI.i64 e149_.gTrail)] []), (6, .cells [.sl (List.map GCell.c []), .sl (List.map cI.i64 [])] [(0, .app 110), (1, .app 3)])], []⟩ _ (by kernel_rfl) .nil ?_
  refine Wc.seq ?_
  obtain ⟨n152_, h154, h⟩ := obind h
  refine Wc.region [{}, {}, {}, { r := some (.v (.tup [.agg [.sl (List.map GCell.c n152_.1.gCells), .sl (List.map cI.i64 n152_.1.gTrail)], .bool n152_.2]) [(0, .app 110), (1, .app 3)]) }, { tk := [14] }, { tk := [10] }, {}, {}, { tk := [15] }] [] [6, 8, 9] [6, 8] [] ⟨[(6, (.ptr 6 0, [])), (8, (.ptr 8 0, [])), (9, (.v (.bool n152_.2), []))], [(6, .cells [.sl (List.map GCell.c []), .sl (List.map cI.i64 [])] [(0, .app 110), (1, .app 3)]), (8, .cells [.sl (List.map GCell.c n152_.1.gCells), .sl (List.map cI.i64 n152_.1.gTrail)] [(0, .app 110), (1, .app 3)])], []⟩ _ (by kernel_rfl) (.cons (cspec_l13BindCellRaw h154) .nil) ?_
  refine Wc.seq ?_
  obtain ⟨e153_, h155, h⟩ := obind h
  refine Wc.region [{}, { r := some (.v (.agg [.sl (List.map GCell.c e153_.gCells), .sl (List.map cI.i64 e153_.gTrail)]) [(0, .app 110), (1, .app 3)]) }, {}, { tk := [18] }] [] [6, 7] [6] [] ⟨[(6, (.ptr 6 0, [])), (7, (.v (.bool n152_.2), []))], [(6, .cells [.sl (List.map GCell.c e153_.gCells), .sl (List.map cI.i64 e153_.gTrail)] [(0, .app 110), (1, .app 3)])], []⟩ _ (by kernel_rfl) (.cons (cspec_l34Heap h155) .nil) ?_
  refine Wc.ret ?_
  obtain rfl := Option.some.inj h
  exact ⟨.inl rfl, by kernel_rfl, by kernel_rfl⟩

def plaws_toIntS_L1 (k : Nat) (a154_ : List Int) : Nat → (List Int) → Int → Option (Out (List Int) (List Int))
  | 0, _, _ => none
  | m + 1, a155_, b156_ =>
    if (decide (b156_ < (a154_.length : Int))) = true then
      (at' a154_ b156_).bind fun b158_ =>
      (at' a155_ b156_).bind fun b159_ =>
      plaws_toIntS_L1 k a154_ m (a155_.set ((b156_).toNat) b158_) (wr.i64 (b156_ + 1))
    else
      some (.done a155_)
/-- laws.toIntS -/
def plaws_toIntS (k : Nat) (a154_ : List Int) : Option (List Int) :=
  if 0 ≤ (a154_.length : Int) ∧ (a154_.length : Int) ≤ 1073741824 then
    (plaws_toIntS_L1 k a154_ k (List.replicate ((a154_.length : Int)).toNat 0) 0).bind fun out1 => match out1 with
    | .ret r => some r
    | .done a157_ =>
      some a157_
  else none
theorem claws_toIntS {k : Nat} {a154_ : List Int} {r : (List Int)} (h : plaws_toIntS k a154_ = some r) : FnO Try.prog 30 [.v (.sl (List.map cI.i64 a154_)) []] (.v (.sl (List.map cI.i64 r)) []) [] := by
  refine FnO.of Try.func30 (rfl : Try.f30.body = some _) (Nat.le_of_ble_eq_true (by kernel_rfl)) (Nat.le_of_ble_eq_true (by kernel_rfl)) ?_
  intro w0 X0 Fin pv0 pb
  unfold plaws_toIntS at h
  refine Wc.seq ?_
  refine Wc.region [] [] [0] [] [] ⟨[(0, (.v (.sl (List.map cI.i64 a154_)), []))], [], []⟩ _ (by kernel_rfl) .nil ?_
  refine Wc.seq ?_
  obtain ⟨h156, h⟩ := oguard h
  refine Wc.region [{}, { v := some (.int .i64 (a154_.length : Int)) }, { c := some (List.map cI.i64 (List.replicate ((a154_.length : Int)).toNat 0)) }, { tk := [7] }] [] [0, 3] [] [] ⟨[(0, (.v (.sl (List.map cI.i64 a154_)), [])), (3, (.v (.slx), [(0, .ex 3 true (List.map cI.i64 (List.replicate ((a154_.length : Int)).toNat 0)))]))], [], []⟩ _ (by kernel_rfl) (.cons (len_obl cI.i64 a154_) (.cons (rep_re (c := cI.i64) (z := 0) rfl ((a154_.length : Int)).toNat) (.cons (ms_obl h156) .nil))) ?_
  refine Wc.seq ?_
  refine Wc.seq ?_
  refine Wc.region [] [] [0, 3, 4] [] [] ⟨[(0, (.v (.sl (List.map cI.i64 a154_)), [])), (3, (.v (.slx), [(0, .ex 3 true (List.map cI.i64 (List.replicate ((a154_.length : Int)).toNat 0)))])), (4, (.v (.int .i64 0), []))], [], []⟩ _ (by kernel_rfl) .nil ?_
  obtain ⟨out1, h157, h⟩ := obind h
  refine Wc.lastJ (fun st => ∃ (a157_ : List Int), out1 = .done a157_ ∧ st = ⟨[(3, (.v (.slx), [(0, .ex 3 true (List.map cI.i64 a157_))]))], [], []⟩) ?_ ?_
  · refine Wc.block ?_
    refine Wc.loop (fun m st => ∃ (a155_ : List Int) (b156_ : Int), st = ⟨[(0, (.v (.sl (List.map cI.i64 a154_)), [])), (3, (.v (.slx), [(0, .ex 3 true (List.map cI.i64 a155_))])), (4, (.v (.int .i64 b156_), []))], [], []⟩ ∧ plaws_toIntS_L1 k a154_ m a155_ b156_ = some out1) ?_ k ⟨_, _, rfl, h157⟩
    rintro m st ⟨a155_, b156_, rfl, h157⟩
    cases m with
    | zero => exact (onone h157).elim
    | succ m =>
      refine Wc.seq ?_
      refine Wc.seq ?_
      refine Wc.region [{}, {}, { v := some (.int .i64 (a154_.length : Int)) }] [] [0, 3, 4, 11] [] [] ⟨[(0, (.v (.sl (List.map cI.i64 a154_)), [])), (3, (.v (.slx), [(0, .ex 3 true (List.map cI.i64 a155_))])), (4, (.v (.int .i64 b156_), [])), (11, (.v (.bool (decide (b156_ < (a154_.length : Int)))), []))], [], []⟩ _ (by kernel_rfl) (.cons (len_obl cI.i64 a154_) .nil) ?_
      rcases oif h157 with ⟨h158, h157⟩ | ⟨h158, h157⟩
      · refine Wc.condT h158 (by kernel_rfl) ?_
        refine Wc.fix (st' := ⟨[(0, (.v (.sl (List.map cI.i64 a154_)), [])), (3, (.v (.slx), [(0, .ex 3 true (List.map cI.i64 a155_))])), (4, (.v (.int .i64 b156_), []))], [], []⟩) [] [0, 3, 4] [] [] (by kernel_rfl) ?_
        refine Wc.skip ?_
        refine Wc.seq ?_
        refine Wc.block ?_
        obtain ⟨b158_, h159, h157⟩ := obind h157
        obtain ⟨b159_, h160, h157⟩ := obind h157
        refine Wc.region [{}, {}, {}, {}, { v := some (.vptr [.int .i64 b158_]) }, {}, {}, { c := some (List.map cI.i64 (a155_.set ((b156_).toNat) b158_)) }] [] [0, 3, 4] [] [] ⟨[(0, (.v (.sl (List.map cI.i64 a154_)), [])), (3, (.v (.slx), [(0, .ex 3 true (List.map cI.i64 (a155_.set ((b156_).toNat) b158_)))])), (4, (.v (.int .i64 b156_), []))], [], []⟩ _ (by kernel_rfl) (.cons (at_obl (c := cI.i64) rfl cI.i64_len h159) (.cons (len_ok 1 [.int .i64 b158_]) (.cons (ix_obl (c := cI.i64) cI.i64_len h160) (.cons (mod_obl (off := 0) (new := [.int .i64 b158_]) (c := cI.i64) rfl rfl (at'_spec h160).2 rfl) (.cons (st_obl (sz := 1) (off := 0) (s := 1) (c := cI.i64) rfl (at'_spec h160).2 rfl (Nat.le_of_ble_eq_true rfl)) .nil))))) ?_
        refine Wc.region [] [] [0, 3, 4] [] [] ⟨[(0, (.v (.sl (List.map cI.i64 a154_)), [])), (3, (.v (.slx), [(0, .ex 3 true (List.map cI.i64 (a155_.set ((b156_).toNat) b158_)))])), (4, (.v (.int .i64 (wr.i64 (b156_ + 1))), []))], [], []⟩ _ (by kernel_rfl) .nil ?_
        exact ⟨_, Nat.lt_succ_self _, _, _, rfl, h157⟩
      · refine Wc.condF h158 (by kernel_rfl) ?_
        refine Wc.fix (st' := ⟨[(3, (.v (.slx), [(0, .ex 3 true (List.map cI.i64 a155_))]))], [], []⟩) [] [3] [] [] (by kernel_rfl) ?_
        refine Wc.exit ?_
        obtain rfl := Option.some.inj h157
        exact ⟨_, rfl, rfl⟩
  · rintro st ⟨a157_, rfl, rfl⟩
    refine Wc.seq ?_
    refine Wc.region [{ tk := [3] }, { tk := [21] }] [] [2] [] [] ⟨[(2, (.v (.slx), [(0, .ex 3 true (List.map cI.i64 a157_))]))], [], []⟩ _ (by kernel_rfl) .nil ?_
    refine Wc.fix (st' := ⟨[(2, (.v (.sl (List.map cI.i64 a157_)), []))], [], []⟩) [.sh (.t 2 0)] [2] [] [] (by kernel_rfl) ?_
    refine Wc.ret ?_
    obtain rfl := Option.some.inj h
    exact ⟨.inl rfl, by kernel_rfl, by kernel_rfl⟩

/-- laws.toCell -/
def plaws_toCell (k : Nat) (c160_ : GCell) : Option GCell :=
  (plaws_toIntS k c160_.gKids).bind fun l161_ =>
  some (GCell.mk c160_.gKind c160_.gName c160_.gNum c160_.gTo l161_)
theorem claws_toCell {k : Nat} {c160_ : GCell} {r : GCell} (h : plaws_toCell k c160_ = some r) : FnO Try.prog 119 [.v (.agg [.int .i64 c160_.gKind, .str c160_.gName, .int .i64 c160_.gNum, .int .i64 c160_.gTo, .sl (List.map cI.i64 c160_.gKids)]) []] (.v (.agg [.int .i64 r.gKind, .str r.gName, .int .i64 r.gNum, .int .i64 r.gTo, .sl (List.map cI.i64 r.gKids)]) []) [] := by
  refine FnO.of Try.func119 (rfl : Try.f119.body = some _) (Nat.le_of_ble_eq_true (by kernel_rfl)) (Nat.le_of_ble_eq_true (by kernel_rfl)) ?_
  intro w0 X0 Fin pv0 pb
  unfold plaws_toCell at h
  refine Wc.seq ?_
  refine Wc.region [] [] [1, 2] [1, 2] [] ⟨[(1, (.ptr 1 0, [])), (2, (.ptr 2 0, []))], [(1, .cells [.int .i64 c160_.gKind, .str c160_.gName, .int .i64 c160_.gNum, .int .i64 c160_.gTo, .sl (List.map cI.i64 c160_.gKids)] []), (2, .cells [.int .i64 0, .str (bs []), .int .i64 0, .int .i64 0, .sl (List.map cI.i64 [])] [(4, .app 3)])], []⟩ _ (by kernel_rfl) .nil ?_
  refine Wc.seq ?_
  refine Wc.region [] [] [1, 2, 3] [1, 2, 3] [] ⟨[(1, (.ptr 1 0, [])), (2, (.ptr 2 0, [])), (3, (.ptr 3 0, []))], [(1, .cells [.int .i64 c160_.gKind, .str c160_.gName, .int .i64 c160_.gNum, .int .i64 c160_.gTo, .sl (List.map cI.i64 c160_.gKids)] []), (2, .cells [.int .i64 0, .str (bs []), .int .i64 0, .int .i64 0, .sl (List.map cI.i64 [])] [(4, .app 3)]), (3, .cells [.int .i64 0, .str (bs []), .int .i64 0, .int .i64 0, .sl (List.map cI.i64 [])] [(4, .app 3)])], []⟩ _ (by kernel_rfl) .nil ?_
  refine Wc.seq ?_
  refine Wc.region [] [] [1, 2, 3] [1, 2, 3] [] ⟨[(1, (.ptr 1 0, [])), (2, (.ptr 2 0, [])), (3, (.ptr 3 0, []))], [(1, .cells [.int .i64 c160_.gKind, .str c160_.gName, .int .i64 c160_.gNum, .int .i64 c160_.gTo, .sl (List.map cI.i64 c160_.gKids)] []), (2, .cells [.int .i64 0, .str (bs []), .int .i64 0, .int .i64 0, .sl (List.map cI.i64 [])] [(4, .app 3)]), (3, .cells [.int .i64 c160_.gKind, .str (bs []), .int .i64 0, .int .i64 0, .sl (List.map cI.i64 [])] [(4, .app 3)])], []⟩ _ (by kernel_rfl) .nil ?_
  refine Wc.seq ?_
  refine Wc.region [] [] [1, 2, 3] [1, 2, 3] [] ⟨[(1, (.ptr 1 0, [])), (2, (.ptr 2 0, [])), (3, (.ptr 3 0, []))], [(1, .cells [.int .i64 c160_.gKind, .str c160_.gName, .int .i64 c160_.gNum, .int .i64 c160_.gTo, .sl (List.map cI.i64 c160_.gKids)] []), (2, .cells [.int .i64 0, .str (bs []), .int .i64 0, .int .i64 0, .sl (List.map cI.i64 [])] [(4, .app 3)]), (3, .cells [.int .i64 c160_.gKind, .str c160_.gName, .int .i64 0, .int .i64 0, .sl (List.map cI.i64 [])] [(4, .app 3)])], []⟩ _ (by kernel_rfl) .nil ?_
  refine Wc.seq ?_
  refine Wc.region [] [] [1, 2, 3] [1, 2, 3] [] ⟨[(1, (.ptr 1 0, [])), (2, (.ptr 2 0, [])), (3, (.ptr 3 0, []))], [(1, .cells [.int .i64 c160_.gKind, .str c160_.gName, .int .i64 c160_.gNum, .int .i64 c160_.gTo, .sl (List.map cI.i64 c160_.gKids)] []), (2, .cells [.int .i64 0, .str (bs []), .int .i64 0, .int .i64 0, .sl (List.map cI.i64 [])] [(4, .app 3)]), (3, .cells [.int .i64 c160_.gKind, .str c160_.gName, .int .i64 c160_.gNum, .int .i64 0, .sl (List.map cI.i64 [])] [(4, .app 3)])], []⟩ _ (by kernel_rfl) .nil ?_
  refine Wc.seq ?_
  refine Wc.region [] [] [1, 2, 3] [1, 2, 3] [] ⟨[(1, (.ptr 1 0, [])), (2, (.ptr 2 0, [])), (3, (.ptr 3 0, []))], [(1, .cells [.int .i64 c160_.gKind, .str c160_.gName, .int .i64 c160_.gNum, .int .i64 c160_.gTo, .sl (List.map cI.i64 c160_.gKids)] []), (2, .cells [.int .i64 0, .str (bs []), .int .i64 0, .int .i64 0, .sl (List.map cI.i64 [])] [(4, .app 3)]), (3, .cells [.int .i64 c160_.gKind, .str c160_.gName, .int .i64 c160_.gNum, .int .i64 c160_.gTo, .sl (List.map cI.i64 [])] [(4, .app 3)])], []⟩ _ (by kernel_rfl) .nil ?_
  refine Wc.seq ?_
  obtain ⟨l161_, h161, h⟩ := obind h
  refine Wc.region [{}, {}, { r := some (.v (.sl (List.map cI.i64 l161_)) []) }] [] [2, 3] [2, 3] [] ⟨[(2, (.ptr 2 0, [])), (3, (.ptr 3 0, []))], [(2, .cells [.int .i64 0, .str (bs []), .int .i64 0, .int .i64 0, .sl (List.map cI.i64 [])] [(4, .app 3)]), (3, .cells [.int .i64 c160_.gKind, .str c160_.gName, .int .i64 c160_.gNum, .int .i64 c160_.gTo, .sl (List.map cI.i64 l161_)] [])], []⟩ _ (by kernel_rfl) (.cons (claws_toIntS h161) .nil) ?_
  refine Wc.seq ?_
  refine Wc.region [] [] [2] [2] [] ⟨[(2, (.ptr 2 0, []))], [(2, .cells [.int .i64 c160_.gKind, .str c160_.gName, .int .i64 c160_.gNum, .int .i64 c160_.gTo, .sl (List.map cI.i64 l161_)] [])], []⟩ _ (by kernel_rfl) .nil ?_
  refine Wc.ret ?_
  obtain rfl := Option.some.inj h
  exact ⟨.inl rfl, by kernel_rfl, by kernel_rfl⟩

def plaws_toCellS_L1 (k : Nat) (d162_ : List GCell) : Nat → (List GCell) → Int → Option (Out (List GCell) (List GCell))
  | 0, _, _ => none
  | m + 1, d163_, b164_ =>
    if (decide (b164_ < (d162_.length : Int))) = true then
      (at' d162_ b164_).bind fun c166_ =>
      (plaws_toCell k c166_).bind fun c167_ =>
      (at' d163_ b164_).bind fun c168_ =>
      plaws_toCellS_L1 k d162_ m (d163_.set ((b164_).toNat) c167_) (wr.i64 (b164_ + 1))
    else
      some (.done d163_)
/-- laws.toCellS -/
def plaws_toCellS (k : Nat) (d162_ : List GCell) : Option (List GCell) :=
  if 0 ≤ (d162_.length : Int) ∧ (d162_.length : Int) ≤ 1073741824 then
    (plaws_toCellS_L1 k d162_ k (List.replicate ((d162_.length : Int)).toNat (GCell.mk 0 (bs []) 0 0 [])) 0).bind fun out1 => match out1 with
    | .ret r => some r
    | .done d165_ =>
      some d165_
  else none
theorem claws_toCellS {k : Nat} {d162_ : List GCell} {r : (List GCell)} (h : plaws_toCellS k d162_ = some r) : FnO Try.prog 78 [.v (.sl (List.map GCell.c d162_)) []] (.v (.sl (List.map GCell.c r)) []) [] := by
  refine FnO.of Try.func78 (rfl : Try.f78.body = some _) (Nat.le_of_ble_eq_true (by kernel_rfl)) (Nat.le_of_ble_eq_true (by kernel_rfl)) ?_
  intro w0 X0 Fin pv0 pb
  unfold plaws_toCellS at h
  refine Wc.seq ?_
  refine Wc.region [] [] [0] [] [] ⟨[(0, (.v (.sl (List.map GCell.c d162_)), []))], [], []⟩ _ (by kernel_rfl) .nil ?_
  refine Wc.seq ?_
  obtain ⟨h162, h⟩ := oguard h
  refine Wc.region [{}, { v := some (.int .i64 (d162_.length : Int)) }, { c := some (List.map GCell.c (List.replicate ((d162_.length : Int)).toNat (GCell.mk 0 (bs []) 0 0 []))) }, { tk := [7], fx := [.ag (.t 7 0)] }] [] [0, 3] [] [] ⟨[(0, (.v (.sl (List.map GCell.c d162_)), [])), (3, (.v (.slx), [(0, .ex 110 false (List.map GCell.c (List.replicate ((d162_.length : Int)).toNat (GCell.mk 0 (bs []) 0 0 []))))]))], [], []⟩ _ (by kernel_rfl) (.cons (len_obl GCell.c d162_) (.cons (rep_re (c := GCell.c) (z := (GCell.mk 0 (bs []) 0 0 [])) (GCell.c_eq (GCell.mk 0 (bs []) 0 0 [])) ((d162_.length : Int)).toNat) (.cons (ms_obl h162) .nil))) ?_
  refine Wc.seq ?_
  refine Wc.seq ?_
  refine Wc.region [] [] [0, 3, 4] [] [] ⟨[(0, (.v (.sl (List.map GCell.c d162_)), [])), (3, (.v (.slx), [(0, .ex 110 false (List.map GCell.c (List.replicate ((d162_.length : Int)).toNat (GCell.mk 0 (bs []) 0 0 []))))])), (4, (.v (.int .i64 0), []))], [], []⟩ _ (by kernel_rfl) .nil ?_
  obtain ⟨out1, h163, h⟩ := obind h
  refine Wc.lastJ (fun st => ∃ (d165_ : List GCell), out1 = .done d165_ ∧ st = ⟨[(3, (.v (.slx), [(0, .ex 110 false (List.map GCell.c d165_))]))], [], []⟩) ?_ ?_
  · refine Wc.block ?_
    refine Wc.loop (fun m st => ∃ (d163_ : List GCell) (b164_ : Int), st = ⟨[(0, (.v (.sl (List.map GCell.c d162_)), [])), (3, (.v (.slx), [(0, .ex 110 false (List.map GCell.c d163_))])), (4, (.v (.int .i64 b164_), []))], [], []⟩ ∧ plaws_toCellS_L1 k d162_ m d163_ b164_ = some out1) ?_ k ⟨_, _, rfl, h163⟩
    rintro m st ⟨d163_, b164_, rfl, h163⟩
    cases m with
    | zero => exact (onone h163).elim
    | succ m =>
      refine Wc.seq ?_
      refine Wc.seq ?_
      refine Wc.region [{}, {}, { v := some (.int .i64 (d162_.length : Int)) }] [] [0, 3, 4, 11] [] [] ⟨[(0, (.v (.sl (List.map GCell.c d162_)), [])), (3, (.v (.slx), [(0, .ex 110 false (List.map GCell.c d163_))])), (4, (.v (.int .i64 b164_), [])), (11, (.v (.bool (decide (b164_ < (d162_.length : Int)))), []))], [], []⟩ _ (by kernel_rfl) (.cons (len_obl GCell.c d162_) .nil) ?_
      rcases oif h163 with ⟨h164, h163⟩ | ⟨h164, h163⟩
      · refine Wc.condT h164 (by kernel_rfl) ?_
        refine Wc.fix (st' := ⟨[(0, (.v (.sl (List.map GCell.c d162_)), [])), (3, (.v (.slx), [(0, .ex 110 false (List.map GCell.c d163_))])), (4, (.v (.int .i64 b164_), []))], [], []⟩) [] [0, 3, 4] [] [] (by kernel_rfl) ?_
        refine Wc.skip ?_
        refine Wc.seq ?_
        refine Wc.block ?_
        obtain ⟨c166_, h165, h163⟩ := obind h163
        obtain ⟨c167_, h166, h163⟩ := obind h163
        obtain ⟨c168_, h167, h163⟩ := obind h163
        refine Wc.region [{}, {}, {}, {}, { v := some (.vptr [.int .i64 c166_.gKind, .str c166_.gName, .int .i64 c166_.gNum, .int .i64 c166_.gTo, .sl (List.map cI.i64 c166_.gKids)]) }, {}, { r := some (.v (.agg [.int .i64 c167_.gKind, .str c167_.gName, .int .i64 c167_.gNum, .int .i64 c167_.gTo, .sl (List.map cI.i64 c167_.gKids)]) []) }, {}, { c := some (List.map GCell.c (d163_.set ((b164_).toNat) c167_)) }] [] [0, 3, 4] [] [] ⟨[(0, (.v (.sl (List.map GCell.c d162_)), [])), (3, (.v (.slx), [(0, .ex 110 false (List.map GCell.c (d163_.set ((b164_).toNat) c167_)))])), (4, (.v (.int .i64 b164_), []))], [], []⟩ _ (by kernel_rfl) (.cons (at_obl (c := GCell.c) (GCell.c_eq c166_) GCell.c_len h165) (.cons (len_ok 5 [.int .i64 c166_.gKind, .str c166_.gName, .int .i64 c166_.gNum, .int .i64 c166_.gTo, .sl (List.map cI.i64 c166_.gKids)]) (.cons (claws_toCell h166) (.cons (ix_obl (c := GCell.c) GCell.c_len h167) (.cons (mod_obl (off := 0) (new := [.int .i64 c167_.gKind, .str c167_.gName, .int .i64 c167_.gNum, .int .i64 c167_.gTo, .sl (List.map cI.i64 c167_.gKids)]) (c := GCell.c) (GCell.c_eq c168_) (GCell.c_eq c167_) (at'_spec h167).2 rfl) (.cons (st_obl (sz := 5) (off := 0) (s := 5) (c := GCell.c) (GCell.c_eq c168_) (at'_spec h167).2 rfl (Nat.le_of_ble_eq_true rfl)) .nil)))))) ?_
        refine Wc.region [] [] [0, 3, 4] [] [] ⟨[(0, (.v (.sl (List.map GCell.c d162_)), [])), (3, (.v (.slx), [(0, .ex 110 false (List.map GCell.c (d163_.set ((b164_).toNat) c167_)))])), (4, (.v (.int .i64 (wr.i64 (b164_ + 1))), []))], [], []⟩ _ (by kernel_rfl) .nil ?_
        exact ⟨_, Nat.lt_succ_self _, _, _, rfl, h163⟩
      · refine Wc.condF h164 (by kernel_rfl) ?_
        refine Wc.fix (st' := ⟨[(3, (.v (.slx), [(0, .ex 110 false (List.map GCell.c d163_))]))], [], []⟩) [] [3] [] [] (by kernel_rfl) ?_
        refine Wc.exit ?_
        obtain rfl := Option.some.inj h163
        exact ⟨_, rfl, rfl⟩
  · rintro st ⟨d165_, rfl, rfl⟩
    refine Wc.seq ?_
    refine Wc.region [{ tk := [3] }, { tk := [22] }] [] [2] [] [] ⟨[(2, (.v (.slx), [(0, .ex 110 false (List.map GCell.c d165_))]))], [], []⟩ _ (by kernel_rfl) .nil ?_
    refine Wc.fix (st' := ⟨[(2, (.v (.sl (List.map GCell.c d165_)), []))], [], []⟩) [.sh (.t 2 0)] [2] [] [] (by kernel_rfl) ?_
    refine Wc.ret ?_
    obtain rfl := Option.some.inj h
    exact ⟨.inl rfl, by kernel_rfl, by kernel_rfl⟩

/-- laws.toHeap -/
def plaws_toHeap (k : Nat) (e169_ : GHeap) : Option GHeap :=
  (plaws_toCellS k e169_.gCells).bind fun m170_ =>
  (plaws_toIntS k e169_.gTrail).bind fun l171_ =>
  some (GHeap.mk m170_ l171_)
theorem claws_toHeap {k : Nat} {e169_ : GHeap} {r : GHeap} (h : plaws_toHeap k e169_ = some r) : FnO Try.prog 38 [.v (.agg [.sl (List.map GCell.c e169_.gCells), .sl (List.map cI.i64 e169_.gTrail)]) []] (.v (.agg [.sl (List.map GCell.c r.gCells), .sl (List.map cI.i64 r.gTrail)]) []) [] := by
  refine FnO.of Try.func38 (rfl : Try.f38.body = some _) (Nat.le_of_ble_eq_true (by kernel_rfl)) (Nat.le_of_ble_eq_true (by kernel_rfl)) ?_
  intro w0 X0 Fin pv0 pb
  unfold plaws_toHeap at h
  refine Wc.seq ?_
  refine Wc.region [] [] [1, 2] [1, 2] [] ⟨[(1, (.ptr 1 0, [])), (2, (.ptr 2 0, []))], [(1, .cells [.sl (List.map GCell.c e169_.gCells), .sl (List.map cI.i64 e169_.gTrail)] []), (2, .cells [.sl (List.map GCell.c []), .sl (List.map cI.i64 [])] [(0, .app 110), (1, .app 3)])], []⟩ _ (by kernel_rfl) .nil ?_
  refine Wc.seq ?_
  refine Wc.region [] [] [1, 2, 3] [1, 2, 3] [] ⟨[(1, (.ptr 1 0, [])), (2, (.ptr 2 0, [])), (3, (.ptr 3 0, []))], [(1, .cells [.sl (List.map GCell.c e169_.gCells), .sl (List.map cI.i64 e169_.gTrail)] []), (2, .cells [.sl (List.map GCell.c []), .sl (List.map cI.i64 [])] [(0, .app 110), (1, .app 3)]), (3, .cells [.sl (List.map GCell.c []), .sl (List.map cI.i64 [])] [(0, .app 110), (1, .app 3)])], []⟩ _ (by kernel_rfl) .nil ?_
  refine Wc.seq ?_
  obtain ⟨m170_, h168, h⟩ := obind h
  refine Wc.region [{}, {}, { r := some (.v (.sl (List.map GCell.c m170_)) []) }] [] [1, 2, 3] [1, 2, 3] [] ⟨[(1, (.ptr 1 0, [])), (2, (.ptr 2 0, [])), (3, (.ptr 3 0, []))], [(1, .cells [.sl (List.map GCell.c e169_.gCells), .sl (List.map cI.i64 e169_.gTrail)] []), (2, .cells [.sl (List.map GCell.c []), .sl (List.map cI.i64 [])] [(0, .app 110), (1, .app 3)]), (3, .cells [.sl (List.map GCell.c m170_), .sl (List.map cI.i64 [])] [(1, .app 3)])], []⟩ _ (by kernel_rfl) (.cons (claws_toCellS h168) .nil) ?_
  refine Wc.seq ?_
  obtain ⟨l171_, h169, h⟩ := obind h
  refine Wc.region [{}, {}, { r := some (.v (.sl (List.map cI.i64 l171_)) []) }] [] [2, 3] [2, 3] [] ⟨[(2, (.ptr 2 0, [])), (3, (.ptr 3 0, []))], [(2, .cells [.sl (List.map GCell.c []), .sl (List.map cI.i64 [])] [(0, .app 110), (1, .app 3)]), (3, .cells [.sl (List.map GCell.c m170_), .sl (List.map cI.i64 l171_)] [])], []⟩ _ (by kernel_rfl) (.cons (claws_toIntS h169) .nil) ?_
  refine Wc.seq ?_
  refine Wc.region [] [] [2] [2] [] ⟨[(2, (.ptr 2 0, []))], [(2, .cells [.sl (List.map GCell.c m170_), .sl (List.map cI.i64 l171_)] [])], []⟩ _ (by kernel_rfl) .nil ?_
  refine Wc.ret ?_
  obtain rfl := Option.some.inj h
  exact ⟨.inl rfl, by kernel_rfl, by kernel_rfl⟩

def pimpl_copyHeap_L1 (k : Nat) (e177_ : GHeap) : Nat → Int → GHeap → Option (Out GHeap GHeap)
  | 0, _, _ => none
  | m + 1, b178_, e179_ =>
    if (decide (b178_ < (e177_.gCells.length : Int))) = true then
      (at' e177_.gCells b178_).bind fun c181_ =>
      if ([] : List Int).length + c181_.gKids.length ≤ 1073741824 then
        if e179_.gCells.length + [c181_].length ≤ 1073741824 then
          pimpl_copyHeap_L1 k e177_ m (wr.i64 (b178_ + 1)) (GHeap.mk (e179_.gCells ++ [c181_]) e179_.gTrail)
        else none
      else none
    else
      some (.done e179_)
/-- impl.copyHeap -/
def pimpl_copyHeap (k : Nat) (e177_ : GHeap) : Option GHeap :=
  if ([] : List Int).length + e177_.gTrail.length ≤ 1073741824 then
    (pimpl_copyHeap_L1 k e177_ k 0 (GHeap.mk [] e177_.gTrail)).bind fun out1 => match out1 with
    | .ret r => some r
    | .done e180_ =>
      some e180_
  else none
theorem cimpl_copyHeap {k : Nat} {e177_ : GHeap} {r : GHeap} (h : pimpl_copyHeap k e177_ = some r) : FnO Try.prog 79 [.v (.agg [.sl (List.map GCell.c e177_.gCells), .sl (List.map cI.i64 e177_.gTrail)]) []] (.v (.agg [.sl (List.map GCell.c r.gCells), .sl (List.map cI.i64 r.gTrail)]) [(0, .app 110), (1, .app 3)]) [] := by
  refine FnO.of Try.func79 (rfl : Try.f79.body = some _) (Nat.le_of_ble_eq_true (by kernel_rfl)) (Nat.le_of_ble_eq_true (by kernel_rfl)) ?_
  intro w0 X0 Fin pv0 pb
  unfold pimpl_copyHeap at h
  refine Wc.seq ?_
  refine Wc.region [] [] [1, 2] [1, 2] [] ⟨[(1, (.ptr 1 0, [])), (2, (.ptr 2 0, []))], [(1, .cells [.sl (List.map GCell.c e177_.gCells), .sl (List.map cI.i64 e177_.gTrail)] []), (2, .cells [.sl (List.map GCell.c []), .sl (List.map cI.i64 [])] [(0, .app 110), (1, .app 3)])], []⟩ _ (by kernel_rfl) .nil ?_
  refine Wc.seq ?_
  obtain ⟨h176, h⟩ := oguard h
  refine Wc.region [{}, {}, { c := some (List.map cI.i64 e177_.gTrail) }, { tk := [8] }, {}, { tk := [9] }] [] [1, 2, 3] [1, 2, 3] [] ⟨[(1, (.ptr 1 0, [])), (2, (.ptr 2 0, [])), (3, (.ptr 3 0, []))], [(1, .cells [.sl (List.map GCell.c e177_.gCells), .sl (List.map cI.i64 e177_.gTrail)] []), (2, .cells [.sl (List.map GCell.c []), .sl (List.map cI.i64 [])] [(0, .app 110), (1, .app 3)]), (3, .cells [.sl (List.map GCell.c []), .sl (List.map cI.i64 e177_.gTrail)] [(0, .app 110), (1, .app 3)])], []⟩ _ (by kernel_rfl) (.cons (app_re0 cI.i64 e177_.gTrail) (.cons (app_leaf (c := cI.i64) (ys := e177_.gTrail) cI.i64_leaf) (.cons (app_obl2 (c := cI.i64) (xs := []) (ys := e177_.gTrail) cI.i64_len h176) .nil))) ?_
  refine Wc.seq ?_
  refine Wc.seq ?_
  refine Wc.region [{}, {}, { v := some (.int .i64 (e177_.gCells.length : Int)) }] [] [2, 3, 11, 12, 13] [2, 3] [] ⟨[(2, (.ptr 2 0, [])), (3, (.ptr 3 0, [])), (11, (.v (.sl (List.map GCell.c e177_.gCells)), [])), (12, (.v (.int .i64 (e177_.gCells.length : Int)), [])), (13, (.v (.int .i64 0), []))], [(2, .cells [.sl (List.map GCell.c []), .sl (List.map cI.i64 [])] [(0, .app 110), (1, .app 3)]), (3, .cells [.sl (List.map GCell.c []), .sl (List.map cI.i64 e177_.gTrail)] [(0, .app 110), (1, .app 3)])], []⟩ _ (by kernel_rfl) (.cons (len_obl GCell.c e177_.gCells) .nil) ?_
  obtain ⟨out1, h177, h⟩ := obind h
  refine Wc.lastJ (fun st => ∃ (e180_ : GHeap), out1 = .done e180_ ∧ st = ⟨[(2, (.ptr 2 0, [])), (3, (.ptr 3 0, []))], [(2, .cells [.sl (List.map GCell.c []), .sl (List.map cI.i64 [])] [(0, .app 110), (1, .app 3)]), (3, .cells [.sl (List.map GCell.c e180_.gCells), .sl (List.map cI.i64 e180_.gTrail)] [(0, .app 110), (1, .app 3)])], []⟩) ?_ ?_
  · refine Wc.block ?_
    refine Wc.loop (fun m st => ∃ (b178_ : Int) (e179_ : GHeap), st = ⟨[(2, (.ptr 2 0, [])), (3, (.ptr 3 0, [])), (11, (.v (.sl (List.map GCell.c e177_.gCells)), [])), (12, (.v (.int .i64 (e177_.gCells.length : Int)), [])), (13, (.v (.int .i64 b178_), []))], [(2, .cells [.sl (List.map GCell.c []), .sl (List.map cI.i64 [])] [(0, .app 110), (1, .app 3)]), (3, .cells [.sl (List.map GCell.c e179_.gCells), .sl (List.map cI.i64 e179_.gTrail)] [(0, .app 110), (1, .app 3)])], []⟩ ∧ pimpl_copyHeap_L1 k e177_ m b178_ e179_ = some out1) ?_ k ⟨_, _, rfl, h177⟩
    rintro m st ⟨b178_, e179_, rfl, h177⟩
    cases m with
    | zero => exact (onone h177).elim
    | succ m =>
      refine Wc.seq ?_
      refine Wc.region [] [] [2, 3, 11, 12, 13, 14] [2, 3] [] ⟨[(2, (.ptr 2 0, [])), (3, (.ptr 3 0, [])), (11, (.v (.sl (List.map GCell.c e177_.gCells)), [])), (12, (.v (.int .i64 (e177_.gCells.length : Int)), [])), (13, (.v (.int .i64 b178_), [])), (14, (.v (.bool (decide (b178_ < (e177_.gCells.length : Int)))), []))], [(2, .cells [.sl (List.map GCell.c []), .sl (List.map cI.i64 [])] [(0, .app 110), (1, .app 3)]), (3, .cells [.sl (List.map GCell.c e179_.gCells), .sl (List.map cI.i64 e179_.gTrail)] [(0, .app 110), (1, .app 3)])], []⟩ _ (by kernel_rfl) .nil ?_
      refine Wc.seq ?_
      rcases oif h177 with ⟨h178, h177⟩ | ⟨h178, h177⟩
      · refine Wc.condT h178 (by kernel_rfl) ?_
        refine Wc.fix (st' := ⟨[(2, (.ptr 2 0, [])), (3, (.ptr 3 0, [])), (11, (.v (.sl (List.map GCell.c e177_.gCells)), [])), (12, (.v (.int .i64 (e177_.gCells.length : Int)), [])), (13, (.v (.int .i64 b178_), []))], [(2, .cells [.sl (List.map GCell.c []), .sl (List.map cI.i64 [])] [(0, .app 110), (1, .app 3)]), (3, .cells [.sl (List.map GCell.c e179_.gCells), .sl (List.map cI.i64 e179_.gTrail)] [(0, .app 110), (1, .app 3)])], []⟩) [] [2, 3, 11, 12, 13] [2, 3] [] (by kernel_rfl) ?_
        refine Wc.skip ?_
        refine Wc.seq ?_
        refine Wc.block ?_
        refine Wc.seq ?_
        obtain ⟨c181_, h179, h177⟩ := obind h177
        refine Wc.region [{ v := some (.vptr [.int .i64 c181_.gKind, .str c181_.gName, .int .i64 c181_.gNum, .int .i64 c181_.gTo, .sl (List.map cI.i64 c181_.gKids)]) }] [] [2, 3, 5, 11, 12, 13] [2, 3, 5] [] ⟨[(2, (.ptr 2 0, [])), (3, (.ptr 3 0, [])), (5, (.ptr 5 0, [])), (11, (.v (.sl (List.map GCell.c e177_.gCells)), [])), (12, (.v (.int .i64 (e177_.gCells.length : Int)), [])), (13, (.v (.int .i64 b178_), []))], [(2, .cells [.sl (List.map GCell.c []), .sl (List.map cI.i64 [])] [(0, .app 110), (1, .app 3)]), (3, .cells [.sl (List.map GCell.c e179_.gCells), .sl (List.map cI.i64 e179_.gTrail)] [(0, .app 110), (1, .app 3)]), (5, .cells [.int .i64 c181_.gKind, .str c181_.gName, .int .i64 c181_.gNum, .int .i64 c181_.gTo, .sl (List.map cI.i64 c181_.gKids)] [])], []⟩ _ (by kernel_rfl) (.cons (at_obl (c := GCell.c) (GCell.c_eq c181_) GCell.c_len h179) (.cons (len_ok 5 [.int .i64 c181_.gKind, .str c181_.gName, .int .i64 c181_.gNum, .int .i64 c181_.gTo, .sl (List.map cI.i64 c181_.gKids)]) .nil)) ?_
        refine Wc.seq ?_
        obtain ⟨h180, h177⟩ := oguard h177
        refine Wc.region [{}, {}, { c := some (List.map cI.i64 c181_.gKids) }, {}, { tk := [19] }] [] [2, 3, 5, 11, 12, 13] [2, 3, 5] [] ⟨[(2, (.ptr 2 0, [])), (3, (.ptr 3 0, [])), (5, (.ptr 5 0, [])), (11, (.v (.sl (List.map GCell.c e177_.gCells)), [])), (12, (.v (.int .i64 (e177_.gCells.length : Int)), [])), (13, (.v (.int .i64 b178_), []))], [(2, .cells [.sl (List.map GCell.c []), .sl (List.map cI.i64 [])] [(0, .app 110), (1, .app 3)]), (3, .cells [.sl (List.map GCell.c e179_.gCells), .sl (List.map cI.i64 e179_.gTrail)] [(0, .app 110), (1, .app 3)]), (5, .cells [.int .i64 c181_.gKind, .str c181_.gName, .int .i64 c181_.gNum, .int .i64 c181_.gTo, .sl (List.map cI.i64 c181_.gKids)] [(4, .app 3)])], []⟩ _ (by kernel_rfl) (.cons (app_re0 cI.i64 c181_.gKids) (.cons (app_leaf (c := cI.i64) (ys := c181_.gKids) cI.i64_leaf) (.cons (app_obl2 (c := cI.i64) (xs := []) (ys := c181_.gKids) cI.i64_len h180) .nil))) ?_
        obtain ⟨h181, h177⟩ := oguard h177
        refine Wc.region [{}, { md := 1 }, {}, { c := some (List.map GCell.c [c181_]) }, { c := some (List.map GCell.c (e179_.gCells ++ [c181_])), tk := [22] }, {}, { tk := [25] }] [.so 3] [2, 3, 11, 12, 13] [2, 3] [] ⟨[(2, (.ptr 2 0, [])), (3, (.ptr 3 0, [])), (11, (.v (.sl (List.map GCell.c e177_.gCells)), [])), (12, (.v (.int .i64 (e177_.gCells.length : Int)), [])), (13, (.v (.int .i64 b178_), []))], [(2, .cells [.sl (List.map GCell.c []), .sl (List.map cI.i64 [])] [(0, .app 110), (1, .app 3)]), (3, .cells [.sl (List.map GCell.c (e179_.gCells ++ [c181_])), .sl (List.map cI.i64 e179_.gTrail)] [(0, .app 110), (1, .app 3)])], []⟩ _ (by kernel_rfl) (.cons (cl_cons (c := GCell.c) (x := c181_) (GCell.c_eq c181_) (cl_nil GCell.c)) (.cons (app_re2 GCell.c e179_.gCells [c181_]) (.cons (app_leaf (c := GCell.c) (ys := [c181_]) GCell.c_leaf) (.cons (app_obl2 (c := GCell.c) (xs := e179_.gCells) (ys := [c181_]) GCell.c_len h181) .nil)))) ?_
        refine Wc.region [] [] [2, 3, 11, 12, 13] [2, 3] [] ⟨[(2, (.ptr 2 0, [])), (3, (.ptr 3 0, [])), (11, (.v (.sl (List.map GCell.c e177_.gCells)), [])), (12, (.v (.int .i64 (e177_.gCells.length : Int)), [])), (13, (.v (.int .i64 (wr.i64 (b178_ + 1))), []))], [(2, .cells [.sl (List.map GCell.c []), .sl (List.map cI.i64 [])] [(0, .app 110), (1, .app 3)]), (3, .cells [.sl (List.map GCell.c (e179_.gCells ++ [c181_])), .sl (List.map cI.i64 e179_.gTrail)] [(0, .app 110), (1, .app 3)])], []⟩ _ (by kernel_rfl) .nil ?_
        exact ⟨_, Nat.lt_succ_self _, _, _, rfl, h177⟩
      · refine Wc.condF h178 (by kernel_rfl) ?_
        refine Wc.fix (st' := ⟨[(2, (.ptr 2 0, [])), (3, (.ptr 3 0, []))], [(2, .cells [.sl (List.map GCell.c []), .sl (List.map cI.i64 [])] [(0, .app 110), (1, .app 3)]), (3, .cells [.sl (List.map GCell.c e179_.gCells), .sl (List.map cI.i64 e179_.gTrail)] [(0, .app 110), (1, .app 3)])], []⟩) [] [2, 3] [2, 3] [] (by kernel_rfl) ?_
        refine Wc.exit ?_
        obtain rfl := Option.some.inj h177
        exact ⟨_, rfl, rfl⟩
  · rintro st ⟨e180_, rfl, rfl⟩
    refine Wc.seq ?_
    refine Wc.region [{ md := 1 }, { tk := [28] }] [] [2] [2] [] ⟨[(2, (.ptr 2 0, []))], [(2, .cells [.sl (List.map GCell.c e180_.gCells), .sl (List.map cI.i64 e180_.gTrail)] [(0, .app 110), (1, .app 3)])], []⟩ _ (by kernel_rfl) .nil ?_
    refine Wc.ret ?_
    obtain rfl := Option.some.inj h
    exact ⟨.inl rfl, by kernel_rfl, by kernel_rfl⟩

/-- impl.within -/
def pimpl_within (k : Nat) (b182_ : Int) (b183_ : Int) (b184_ : Int) : Option Bool :=
  if (decide (b182_ ≥ b183_)) = true then
    some (decide (b182_ ≤ b184_))
  else
    some false
theorem cimpl_within {k : Nat} {b182_ : Int} {b183_ : Int} {b184_ : Int} {r : Bool} (h : pimpl_within k b182_ b183_ b184_ = some r) : FnO Try.prog 109 [.v (.int .i64 b182_) [], .v (.int .i64 b183_) [], .v (.int .i64 b184_) []] (.v (.bool r) []) [] := by
  refine FnO.of Try.func109 (rfl : Try.f109.body = some _) (Nat.le_of_ble_eq_true (by kernel_rfl)) (Nat.le_of_ble_eq_true (by kernel_rfl)) ?_
  intro w0 X0 Fin pv0 pb
  unfold pimpl_within at h
  refine Wc.seq ?_
  refine Wc.region [] [] [0, 1, 2] [] [] ⟨[(0, (.v (.int .i64 b182_), [])), (1, (.v (.int .i64 b183_), [])), (2, (.v (.int .i64 b184_), []))], [], []⟩ _ (by kernel_rfl) .nil ?_
  refine Wc.seq ?_
  rcases oif h with ⟨h182, h⟩ | ⟨h182, h⟩
  · refine Wc.region [{}, {}, {}, { re := some (.bool true) }] [] [6] [] [] ⟨[(6, (.v (.bool (decide (b182_ ≤ b184_))), []))], [], []⟩ _ (by kernel_rfl) (.cons (congrArg AV.bool h182) .nil) ?_
    refine Wc.ret ?_
    obtain rfl := Option.some.inj h
    exact ⟨.inl rfl, by kernel_rfl, by kernel_rfl⟩
  · refine Wc.region [{}, {}, {}, { re := some (.bool false) }] [] [6] [] [] ⟨[(6, (.v (.bool false), []))], [], []⟩ _ (by kernel_rfl) (.cons (congrArg AV.bool h182) .nil) ?_
    refine Wc.ret ?_
    obtain rfl := Option.some.inj h
    exact ⟨.inl rfl, by kernel_rfl, by kernel_rfl⟩

/-- impl.isCell -/
def pimpl_isCell (k : Nat) (e185_ : GHeap) (b186_ : Int) : Option Bool :=
  (pimpl_within k b186_ 0 (wr.i64 ((e185_.gCells.length : Int) - 1))).bind fun g187_ =>
  some g187_
theorem cimpl_isCell {k : Nat} {e185_ : GHeap} {b186_ : Int} {r : Bool} (h : pimpl_isCell k e185_ b186_ = some r) : FnO Try.prog 81 [.v (.agg [.sl (List.map GCell.c e185_.gCells), .sl (List.map cI.i64 e185_.gTrail)]) [], .v (.int .i64 b186_) []] (.v (.bool r) []) [] := by
  refine FnO.of Try.func81 (rfl : Try.f81.body = some _) (Nat.le_of_ble_eq_true (by kernel_rfl)) (Nat.le_of_ble_eq_true (by kernel_rfl)) ?_
  intro w0 X0 Fin pv0 pb
  unfold pimpl_isCell at h
  refine Wc.seq ?_
  refine Wc.region [] [] [1, 2] [2] [] ⟨[(1, (.v (.int .i64 b186_), [])), (2, (.ptr 2 0, []))], [(2, .cells [.sl (List.map GCell.c e185_.gCells), .sl (List.map cI.i64 e185_.gTrail)] [])], []⟩ _ (by kernel_rfl) .nil ?_
  refine Wc.seq ?_
  obtain ⟨g187_, h183, h⟩ := obind h
  refine Wc.region [{}, {}, {}, { v := some (.int .i64 (e185_.gCells.length : Int)) }, {}, { r := some (.v (.bool g187_) []) }] [] [4] [] [] ⟨[(4, (.v (.bool g187_), []))], [], []⟩ _ (by kernel_rfl) (.cons (len_obl GCell.c e185_.gCells) (.cons (cimpl_within h183) .nil)) ?_
  refine Wc.ret ?_
  obtain rfl := Option.some.inj h
  exact ⟨.inl rfl, by kernel_rfl, by kernel_rfl⟩

def pimpl_follow_L1 (k : Nat) (e188_ : GHeap) : Nat → Int → Int → Option (Out Int Unit)
  | 0, _, _ => none
  | m + 1, b190_, b191_ =>
    if (decide (b191_ < (wr.i64 ((e188_.gCells.length : Int) + 1)))) = true then
      (pimpl_isCell k e188_ b190_).bind fun g192_ =>
      if (!g192_) = true then
        some (.ret (-1))
      else
        (at' e188_.gCells b190_).bind fun c193_ =>
        if (c193_.gKind != 1) = true then
          some (.ret b190_)
        else
          if (decide (c193_.gTo < 0)) = true then
            some (.ret b190_)
          else
            (at' e188_.gCells b190_).bind fun c194_ =>
            pimpl_follow_L1 k e188_ m c194_.gTo (wr.i64 (b191_ + 1))
    else
      some (.done ())
/-- impl.follow -/
def pimpl_follow (k : Nat) (e188_ : GHeap) (b189_ : Int) : Option Int :=
  (pimpl_follow_L1 k e188_ k b189_ 0).bind fun out1 => match out1 with
  | .ret r => some r
  | .done () =>
    some (-1)
theorem cimpl_follow {k : Nat} {e188_ : GHeap} {b189_ : Int} {r : Int} (h : pimpl_follow k e188_ b189_ = some r) : FnO Try.prog 82 [.v (.agg [.sl (List.map GCell.c e188_.gCells), .sl (List.map cI.i64 e188_.gTrail)]) [], .v (.int .i64 b189_) []] (.v (.int .i64 r) []) [] := by
  refine FnO.of Try.func82 (rfl : Try.f82.body = some _) (Nat.le_of_ble_eq_true (by kernel_rfl)) (Nat.le_of_ble_eq_true (by kernel_rfl)) ?_
  intro w0 X0 Fin pv0 pb
  unfold pimpl_follow at h
  refine Wc.seq ?_
  refine Wc.region [] [] [1, 2] [2] [] ⟨[(1, (.v (.int .i64 b189_), [])), (2, (.ptr 2 0, []))], [(2, .cells [.sl (List.map GCell.c e188_.gCells), .sl (List.map cI.i64 e188_.gTrail)] [])], []⟩ _ (by kernel_rfl) .nil ?_
  refine Wc.seq ?_
  refine Wc.seq ?_
  refine Wc.region [{}, {}, { v := some (.int .i64 (e188_.gCells.length : Int)) }] [] [1, 2, 9, 10] [2] [] ⟨[(1, (.v (.int .i64 b189_), [])), (2, (.ptr 2 0, [])), (9, (.v (.int .i64 (wr.i64 ((e188_.gCells.length : Int) + 1))), [])), (10, (.v (.int .i64 0), []))], [(2, .cells [.sl (List.map GCell.c e188_.gCells), .sl (List.map cI.i64 e188_.gTrail)] [])], []⟩ _ (by kernel_rfl) (.cons (len_obl GCell.c e188_.gCells) .nil) ?_
  obtain ⟨out1, h184, h⟩ := obind h
  refine Wc.lastJ (fun st => out1 = .done () ∧ st = ⟨[], [], []⟩) ?_ ?_
  · refine Wc.block ?_
    refine Wc.loop (fun m st => ∃ (b190_ : Int) (b191_ : Int), st = ⟨[(1, (.v (.int .i64 b190_), [])), (2, (.ptr 2 0, [])), (9, (.v (.int .i64 (wr.i64 ((e188_.gCells.length : Int) + 1))), [])), (10, (.v (.int .i64 b191_), []))], [(2, .cells [.sl (List.map GCell.c e188_.gCells), .sl (List.map cI.i64 e188_.gTrail)] [])], []⟩ ∧ pimpl_follow_L1 k e188_ m b190_ b191_ = some out1) ?_ k ⟨_, _, rfl, h184⟩
    rintro m st ⟨b190_, b191_, rfl, h184⟩
    cases m with
    | zero => exact (onone h184).elim
    | succ m =>
      refine Wc.seq ?_
      refine Wc.region [] [] [1, 2, 9, 10, 11] [2] [] ⟨[(1, (.v (.int .i64 b190_), [])), (2, (.ptr 2 0, [])), (9, (.v (.int .i64 (wr.i64 ((e188_.gCells.length : Int) + 1))), [])), (10, (.v (.int .i64 b191_), [])), (11, (.v (.bool (decide (b191_ < (wr.i64 ((e188_.gCells.length : Int) + 1))))), []))], [(2, .cells [.sl (List.map GCell.c e188_.gCells), .sl (List.map cI.i64 e188_.gTrail)] [])], []⟩ _ (by kernel_rfl) .nil ?_
      refine Wc.seq ?_
      rcases oif h184 with ⟨h185, h184⟩ | ⟨h185, h184⟩
      · refine Wc.condT h185 (by kernel_rfl) ?_
        refine Wc.fix (st' := ⟨[(1, (.v (.int .i64 b190_), [])), (2, (.ptr 2 0, [])), (9, (.v (.int .i64 (wr.i64 ((e188_.gCells.length : Int) + 1))), [])), (10, (.v (.int .i64 b191_), []))], [(2, .cells [.sl (List.map GCell.c e188_.gCells), .sl (List.map cI.i64 e188_.gTrail)] [])], []⟩) [] [1, 2, 9, 10] [2] [] (by kernel_rfl) ?_
        refine Wc.skip ?_
        refine Wc.seq ?_
        refine Wc.block ?_
        refine Wc.seq ?_
        refine Wc.seq ?_
        obtain ⟨g192_, h186, h184⟩ := obind h184
        refine Wc.region [{}, {}, { r := some (.v (.bool g192_) []) }] [] [1, 2, 9, 10, 15] [2] [] ⟨[(1, (.v (.int .i64 b190_), [])), (2, (.ptr 2 0, [])), (9, (.v (.int .i64 (wr.i64 ((e188_.gCells.length : Int) + 1))), [])), (10, (.v (.int .i64 b191_), [])), (15, (.v (.bool (!g192_)), []))], [(2, .cells [.sl (List.map GCell.c e188_.gCells), .sl (List.map cI.i64 e188_.gTrail)] [])], []⟩ _ (by kernel_rfl) (.cons (cimpl_isCell h186) .nil) ?_
        rcases oif h184 with ⟨h187, h184⟩ | ⟨h187, h184⟩
        · refine Wc.condT h187 (by kernel_rfl) ?_
          refine Wc.seq ?_
          refine Wc.region [] [] [4] [] [] ⟨[(4, (.v (.int .i64 (-1)), []))], [], []⟩ _ (by kernel_rfl) .nil ?_
          refine Wc.ret ?_
          obtain rfl := Option.some.inj h184
          obtain rfl := Option.some.inj h
          exact ⟨.inl rfl, by kernel_rfl, by kernel_rfl⟩
        · refine Wc.condF h187 (by kernel_rfl) ?_
          refine Wc.fix (st' := ⟨[(1, (.v (.int .i64 b190_), [])), (2, (.ptr 2 0, [])), (9, (.v (.int .i64 (wr.i64 ((e188_.gCells.length : Int) + 1))), [])), (10, (.v (.int .i64 b191_), []))], [(2, .cells [.sl (List.map GCell.c e188_.gCells), .sl (List.map cI.i64 e188_.gTrail)] [])], []⟩) [] [1, 2, 9, 10] [2] [] (by kernel_rfl) ?_
          refine Wc.skip ?_
          refine Wc.seq ?_
          refine Wc.seq ?_
          obtain ⟨c193_, h188, h184⟩ := obind h184
          refine Wc.region [{}, {}, {}, { v := some (.vptr [.int .i64 c193_.gKind, .str c193_.gName, .int .i64 c193_.gNum, .int .i64 c193_.gTo, .sl (List.map cI.i64 c193_.gKids)]) }] [] [1, 2, 5, 9, 10] [2, 5] [] ⟨[(1, (.v (.int .i64 b190_), [])), (2, (.ptr 2 0, [])), (5, (.ptr 5 0, [])), (9, (.v (.int .i64 (wr.i64 ((e188_.gCells.length : Int) + 1))), [])), (10, (.v (.int .i64 b191_), []))], [(2, .cells [.sl (List.map GCell.c e188_.gCells), .sl (List.map cI.i64 e188_.gTrail)] []), (5, .cells [.int .i64 c193_.gKind, .str c193_.gName, .int .i64 c193_.gNum, .int .i64 c193_.gTo, .sl (List.map cI.i64 c193_.gKids)] [])], []⟩ _ (by kernel_rfl) (.cons (at_obl (c := GCell.c) (GCell.c_eq c193_) GCell.c_len h188) (.cons (len_ok 5 [.int .i64 c193_.gKind, .str c193_.gName, .int .i64 c193_.gNum, .int .i64 c193_.gTo, .sl (List.map cI.i64 c193_.gKids)]) .nil)) ?_
          refine Wc.seq ?_
          rcases oif h184 with ⟨h189, h184⟩ | ⟨h189, h184⟩
          · refine Wc.region [{}, {}, {}, { re := some (.bool true) }] [] [1, 2, 9, 10, 28] [2] [] ⟨[(1, (.v (.int .i64 b190_), [])), (2, (.ptr 2 0, [])), (9, (.v (.int .i64 (wr.i64 ((e188_.gCells.length : Int) + 1))), [])), (10, (.v (.int .i64 b191_), [])), (28, (.v (.bool true), []))], [(2, .cells [.sl (List.map GCell.c e188_.gCells), .sl (List.map cI.i64 e188_.gTrail)] [])], []⟩ _ (by kernel_rfl) (.cons (congrArg AV.bool h189) .nil) ?_
            refine Wc.condT rfl (by kernel_rfl) ?_
            refine Wc.seq ?_
            refine Wc.region [] [] [4] [] [] ⟨[(4, (.v (.int .i64 b190_), []))], [], []⟩ _ (by kernel_rfl) .nil ?_
            refine Wc.ret ?_
            obtain rfl := Option.some.inj h184
            obtain rfl := Option.some.inj h
            exact ⟨.inl rfl, by kernel_rfl, by kernel_rfl⟩
          · refine Wc.region [{}, {}, {}, { re := some (.bool false) }] [] [1, 2, 9, 10, 28] [2] [] ⟨[(1, (.v (.int .i64 b190_), [])), (2, (.ptr 2 0, [])), (9, (.v (.int .i64 (wr.i64 ((e188_.gCells.length : Int) + 1))), [])), (10, (.v (.int .i64 b191_), [])), (28, (.v (.bool (decide (c193_.gTo < 0))), []))], [(2, .cells [.sl (List.map GCell.c e188_.gCells), .sl (List.map cI.i64 e188_.gTrail)] [])], []⟩ _ (by kernel_rfl) (.cons (congrArg AV.bool h189) .nil) ?_
            rcases oif h184 with ⟨h190, h184⟩ | ⟨h190, h184⟩
            · refine Wc.condT h190 (by kernel_rfl) ?_
              refine Wc.seq ?_
              refine Wc.region [] [] [4] [] [] ⟨[(4, (.v (.int .i64 b190_), []))], [], []⟩ _ (by kernel_rfl) .nil ?_
              refine Wc.ret ?_
              obtain rfl := Option.some.inj h184
              obtain rfl := Option.some.inj h
              exact ⟨.inl rfl, by kernel_rfl, by kernel_rfl⟩
            · refine Wc.condF h190 (by kernel_rfl) ?_
              refine Wc.fix (st' := ⟨[(1, (.v (.int .i64 b190_), [])), (2, (.ptr 2 0, [])), (9, (.v (.int .i64 (wr.i64 ((e188_.gCells.length : Int) + 1))), [])), (10, (.v (.int .i64 b191_), []))], [(2, .cells [.sl (List.map GCell.c e188_.gCells), .sl (List.map cI.i64 e188_.gTrail)] [])], []⟩) [] [1, 2, 9, 10] [2] [] (by kernel_rfl) ?_
              refine Wc.skip ?_
              obtain ⟨c194_, h191, h184⟩ := obind h184
              refine Wc.region [{}, {}, {}, { v := some (.vptr [.int .i64 c194_.gKind, .str c194_.gName, .int .i64 c194_.gNum, .int .i64 c194_.gTo, .sl (List.map cI.i64 c194_.gKids)]) }] [] [1, 2, 9, 10] [2] [] ⟨[(1, (.v (.int .i64 c194_.gTo), [])), (2, (.ptr 2 0, [])), (9, (.v (.int .i64 (wr.i64 ((e188_.gCells.length : Int) + 1))), [])), (10, (.v (.int .i64 b191_), []))], [(2, .cells [.sl (List.map GCell.c e188_.gCells), .sl (List.map cI.i64 e188_.gTrail)] [])], []⟩ _ (by kernel_rfl) (.cons (at_obl (c := GCell.c) (GCell.c_eq c194_) GCell.c_len h191) (.cons (len_ok 1 [.int .i64 c194_.gTo, .sl (List.map cI.i64 c194_.gKids)]) .nil)) ?_
              refine Wc.region [] [] [1, 2, 9, 10] [2] [] ⟨[(1, (.v (.int .i64 c194_.gTo), [])), (2, (.ptr 2 0, [])), (9, (.v (.int .i64 (wr.i64 ((e188_.gCells.length : Int) + 1))), [])), (10, (.v (.int .i64 (wr.i64 (b191_ + 1))), []))], [(2, .cells [.sl (List.map GCell.c e188_.gCells), .sl (List.map cI.i64 e188_.gTrail)] [])], []⟩ _ (by kernel_rfl) .nil ?_
              exact ⟨_, Nat.lt_succ_self _, _, _, rfl, h184⟩
      · refine Wc.condF h185 (by kernel_rfl) ?_
        refine Wc.fix (st' := ⟨[], [], []⟩) [] [] [] [] (by kernel_rfl) ?_
        refine Wc.exit ?_
        obtain rfl := Option.some.inj h184
        exact ⟨rfl, rfl⟩
  · rintro st ⟨rfl, rfl⟩
    refine Wc.seq ?_
    refine Wc.region [] [] [4] [] [] ⟨[(4, (.v (.int .i64 (-1)), []))], [], []⟩ _ (by kernel_rfl) .nil ?_
    refine Wc.ret ?_
    obtain rfl := Option.some.inj h
    exact ⟨.inl rfl, by kernel_rfl, by kernel_rfl⟩

def pimpl_HeapOk_L3 (k : Nat) (c198_ : GCell) (e195_ : GHeap) : Nat → Int → Option (Out Bool Unit)
  | 0, _ => none
  | m + 1, b201_ =>
    if (decide (b201_ < (c198_.gKids.length : Int))) = true then
      (at' c198_.gKids b201_).bind fun b202_ =>
      (pimpl_isCell k e195_ b202_).bind fun g203_ =>
      if (!g203_) = true then
        some (.ret false)
      else
        pimpl_HeapOk_L3 k c198_ e195_ m (wr.i64 (b201_ + 1))
    else
      some (.done ())
def pimpl_HeapOk_J2 (k : Nat) (bk_ : Int → (List (Int × Int)) → Option (Out Bool Unit)) (c198_ : GCell) (e195_ : GHeap) (b196_ : Int) (o200_ : List (Int × Int)) : Option (Out Bool Unit) :=
  (pimpl_HeapOk_L3 k c198_ e195_ k 0).bind fun out3 => match out3 with
  | .ret r => some (.ret r)
  | .done () =>
    bk_ (wr.i64 (b196_ + 1)) o200_
def pimpl_HeapOk_L1 (k : Nat) (e195_ : GHeap) : Nat → Int → (List (Int × Int)) → Option (Out Bool Unit)
  | 0, _, _ => none
  | m + 1, b196_, o197_ =>
    if (decide (b196_ < (e195_.gCells.length : Int))) = true then
      (at' e195_.gCells b196_).bind fun c198_ =>
      (pimpl_within k c198_.gKind 1 4).bind fun g199_ =>
      if (!g199_) = true then
        some (.ret false)
      else
        if (c198_.gKind == 1) = true then
          if (decide ((mget (mset o197_ c198_.gNum (wr.i64 ((mget o197_ c198_.gNum) + 1))) c198_.gNum) > 1)) = true then
            some (.ret false)
          else
            if (c198_.gTo != (-1)) = true then
              (pimpl_isCell k e195_ c198_.gTo).bind fun g204_ =>
              if (!g204_) = true then
                some (.ret false)
              else
                (pimpl_follow k e195_ b196_).bind fun b205_ =>
                if (decide (b205_ < 0)) = true then
                  some (.ret false)
                else
                  pimpl_HeapOk_J2 k (pimpl_HeapOk_L1 k e195_ m) c198_ e195_ b196_ (mset o197_ c198_.gNum (wr.i64 ((mget o197_ c198_.gNum) + 1)))
            else
              (pimpl_follow k e195_ b196_).bind fun b204_ =>
              if (decide (b204_ < 0)) = true then
                some (.ret false)
              else
                pimpl_HeapOk_J2 k (pimpl_HeapOk_L1 k e195_ m) c198_ e195_ b196_ (mset o197_ c198_.gNum (wr.i64 ((mget o197_ c198_.gNum) + 1)))
        else
          pimpl_HeapOk_J2 k (pimpl_HeapOk_L1 k e195_ m) c198_ e195_ b196_ o197_
    else
      some (.done ())
def pimpl_HeapOk_L4 (k : Nat) (e195_ : GHeap) : Nat → Int → Option (Out Bool Unit)
  | 0, _ => none
  | m + 1, b206_ =>
    if (decide (b206_ < (e195_.gTrail.length : Int))) = true then
      (at' e195_.gTrail b206_).bind fun b207_ =>
      (pimpl_isCell k e195_ b207_).bind fun g208_ =>
      if (!g208_) = true then
        some (.ret false)
      else
        (at' e195_.gCells b207_).bind fun c209_ =>
        if (c209_.gKind != 1) = true then
          some (.ret false)
        else
          pimpl_HeapOk_L4 k e195_ m (wr.i64 (b206_ + 1))
    else
      some (.done ())
/-- impl.HeapOk -/
def pimpl_HeapOk (k : Nat) (e195_ : GHeap) : Option Bool :=
  if (decide ((e195_.gCells.length : Int) > 60000)) = true then
    some false
  else
    (pimpl_HeapOk_L1 k e195_ k 0 []).bind fun out1 => match out1 with
    | .ret r => some r
    | .done () =>
      (pimpl_HeapOk_L4 k e195_ k 0).bind fun out4 => match out4 with
      | .ret r => some r
      | .done () =>
        some true
set_option maxHeartbeats 4000000 in
theorem cimpl_HeapOk {k : Nat} {e195_ : GHeap} {r : Bool} (h : pimpl_HeapOk k e195_ = some r) : FnO Try.prog 80 [.v (.agg [.sl (List.map GCell.c e195_.gCells), .sl (List.map cI.i64 e195_.gTrail)]) []] (.v (.bool r) []) [] := by
  refine FnO.of Try.func80 (rfl : Try.f80.body = some _) (Nat.le_of_ble_eq_true (by kernel_rfl)) (Nat.le_of_ble_eq_true (by kernel_rfl)) ?_
  intro w0 X0 Fin pv0 pb
  unfold pimpl_HeapOk at h
  refine Wc.seq ?_
  refine Wc.region [] [] [1] [1] [] ⟨[(1, (.ptr 1 0, []))], [(1, .cells [.sl (List.map GCell.c e195_.gCells), .sl (List.map cI.i64 e195_.gTrail)] [])], []⟩ _ (by kernel_rfl) .nil ?_
  refine Wc.seq ?_
  refine Wc.seq ?_
  refine Wc.region [{}, {}, { v := some (.int .i64 (e195_.gCells.length : Int)) }] [] [1, 13] [1] [] ⟨[(1, (.ptr 1 0, [])), (13, (.v (.bool (decide ((e195_.gCells.length : Int) > 60000))), []))], [(1, .cells [.sl (List.map GCell.c e195_.gCells), .sl (List.map cI.i64 e195_.gTrail)] [])], []⟩ _ (by kernel_rfl) (.cons (len_obl GCell.c e195_.gCells) .nil) ?_
  rcases oif h with ⟨h192, h⟩ | ⟨h192, h⟩
  · refine Wc.condT h192 (by kernel_rfl) ?_
    refine Wc.seq ?_
    refine Wc.region [] [] [2] [] [] ⟨[(2, (.v (.bool false), []))], [], []⟩ _ (by kernel_rfl) .nil ?_
    refine Wc.ret ?_
    obtain rfl := Option.some.inj h
    exact ⟨.inl rfl, by kernel_rfl, by kernel_rfl⟩
  · refine Wc.condF h192 (by kernel_rfl) ?_
    refine Wc.fix (st' := ⟨[(1, (.ptr 1 0, []))], [(1, .cells [.sl (List.map GCell.c e195_.gCells), .sl (List.map cI.i64 e195_.gTrail)] [])], []⟩) [] [1] [1] [] (by kernel_rfl) ?_
    refine Wc.skip ?_
    refine Wc.seq ?_
    refine Wc.region [] [] [1, 3] [1, 14] [] ⟨[(1, (.ptr 1 0, [])), (3, (.mp 14, []))], [(1, .cells [.sl (List.map GCell.c e195_.gCells), .sl (List.map cI.i64 e195_.gTrail)] []), (14, .map (mgk []) (mgv []))], []⟩ _ (by kernel_rfl) .nil ?_
    refine Wc.seq ?_
    refine Wc.seq ?_
    refine Wc.region [{}, {}, { v := some (.int .i64 (e195_.gCells.length : Int)) }] [] [1, 3, 16, 17, 18] [1, 14] [] ⟨[(1, (.ptr 1 0, [])), (3, (.mp 14, [])), (16, (.v (.sl (List.map GCell.c e195_.gCells)), [])), (17, (.v (.int .i64 (e195_.gCells.length : Int)), [])), (18, (.v (.int .i64 0), []))], [(1, .cells [.sl (List.map GCell.c e195_.gCells), .sl (List.map cI.i64 e195_.gTrail)] []), (14, .map (mgk []) (mgv []))], []⟩ _ (by kernel_rfl) (.cons (len_obl GCell.c e195_.gCells) .nil) ?_
    obtain ⟨out1, h193, h⟩ := obind h
    refine Wc.lastJ (fun st => out1 = .done () ∧ st = ⟨[(1, (.ptr 1 0, []))], [(1, .cells [.sl (List.map GCell.c e195_.gCells), .sl (List.map cI.i64 e195_.gTrail)] [])], []⟩) ?_ ?_
    · refine Wc.block ?_
      refine Wc.loop (fun m st => ∃ (b196_ : Int) (o197_ : List (Int × Int)), st = ⟨[(1, (.ptr 1 0, [])), (3, (.mp 14, [])), (16, (.v (.sl (List.map GCell.c e195_.gCells)), [])), (17, (.v (.int .i64 (e195_.gCells.length : Int)), [])), (18, (.v (.int .i64 b196_), []))], [(1, .cells [.sl (List.map GCell.c e195_.gCells), .sl (List.map cI.i64 e195_.gTrail)] []), (14, .map (mgk o197_) (mgv o197_))], []⟩ ∧ pimpl_HeapOk_L1 k e195_ m b196_ o197_ = some out1) ?_ k ⟨_, _, rfl, h193⟩
      rintro m st ⟨b196_, o197_, rfl, h193⟩
      cases m with
      | zero => exact (onone h193).elim
      | succ m =>
        refine Wc.seq ?_
        refine Wc.region [] [] [1, 3, 16, 17, 18, 19] [1, 14] [] ⟨[(1, (.ptr 1 0, [])), (3, (.mp 14, [])), (16, (.v (.sl (List.map GCell.c e195_.gCells)), [])), (17, (.v (.int .i64 (e195_.gCells.length : Int)), [])), (18, (.v (.int .i64 b196_), [])), (19, (.v (.bool (decide (b196_ < (e195_.gCells.length : Int)))), []))], [(1, .cells [.sl (List.map GCell.c e195_.gCells), .sl (List.map cI.i64 e195_.gTrail)] []), (14, .map (mgk o197_) (mgv o197_))], []⟩ _ (by kernel_rfl) .nil ?_
        refine Wc.seq ?_
        rcases oif h193 with ⟨h194, h193⟩ | ⟨h194, h193⟩
        · refine Wc.condT h194 (by kernel_rfl) ?_
          refine Wc.fix (st' := ⟨[(1, (.ptr 1 0, [])), (3, (.mp 14, [])), (16, (.v (.sl (List.map GCell.c e195_.gCells)), [])), (17, (.v (.int .i64 (e195_.gCells.length : Int)), [])), (18, (.v (.int .i64 b196_), []))], [(1, .cells [.sl (List.map GCell.c e195_.gCells), .sl (List.map cI.i64 e195_.gTrail)] []), (14, .map (mgk o197_) (mgv o197_))], []⟩) [] [1, 3, 16, 17, 18] [1, 14] [] (by kernel_rfl) ?_
          refine Wc.skip ?_
          refine Wc.seq ?_
          refine Wc.block ?_
          refine Wc.seq ?_
          obtain ⟨c198_, h195, h193⟩ := obind h193
          refine Wc.region [{}, { v := some (.vptr [.int .i64 c198_.gKind, .str c198_.gName, .int .i64 c198_.gNum, .int .i64 c198_.gTo, .sl (List.map cI.i64 c198_.gKids)]) }] [] [1, 3, 4, 5, 16, 17, 18] [1, 5, 14] [] ⟨[(1, (.ptr 1 0, [])), (3, (.mp 14, [])), (4, (.v (.int .i64 b196_), [])), (5, (.ptr 5 0, [])), (16, (.v (.sl (List.map GCell.c e195_.gCells)), [])), (17, (.v (.int .i64 (e195_.gCells.length : Int)), [])), (18, (.v (.int .i64 b196_), []))], [(1, .cells [.sl (List.map GCell.c e195_.gCells), .sl (List.map cI.i64 e195_.gTrail)] []), (5, .cells [.int .i64 c198_.gKind, .str c198_.gName, .int .i64 c198_.gNum, .int .i64 c198_.gTo, .sl (List.map cI.i64 c198_.gKids)] []), (14, .map (mgk o197_) (mgv o197_))], []⟩ _ (by kernel_rfl) (.cons (at_obl (c := GCell.c) (GCell.c_eq c198_) GCell.c_len h195) (.cons (len_ok 5 [.int .i64 c198_.gKind, .str c198_.gName, .int .i64 c198_.gNum, .int .i64 c198_.gTo, .sl (List.map cI.i64 c198_.gKids)]) .nil)) ?_
          refine Wc.seq ?_
          refine Wc.seq ?_
          obtain ⟨g199_, h196, h193⟩ := obind h193
          refine Wc.region [{}, {}, { r := some (.v (.bool g199_) []) }] [] [1, 3, 4, 5, 16, 17, 18, 26] [1, 5, 14] [] ⟨[(1, (.ptr 1 0, [])), (3, (.mp 14, [])), (4, (.v (.int .i64 b196_), [])), (5, (.ptr 5 0, [])), (16, (.v (.sl (List.map GCell.c e195_.gCells)), [])), (17, (.v (.int .i64 (e195_.gCells.length : Int)), [])), (18, (.v (.int .i64 b196_), [])), (26, (.v (.bool (!g199_)), []))], [(1, .cells [.sl (List.map GCell.c e195_.gCells), .sl (List.map cI.i64 e195_.gTrail)] []), (5, .cells [.int .i64 c198_.gKind, .str c198_.gName, .int .i64 c198_.gNum, .int .i64 c198_.gTo, .sl (List.map cI.i64 c198_.gKids)] []), (14, .map (mgk o197_) (mgv o197_))], []⟩ _ (by kernel_rfl) (.cons (cimpl_within h196) .nil) ?_
          rcases oif h193 with ⟨h197, h193⟩ | ⟨h197, h193⟩
          · refine Wc.condT h197 (by kernel_rfl) ?_
            refine Wc.seq ?_
            refine Wc.region [] [] [2] [] [] ⟨[(2, (.v (.bool false), []))], [], []⟩ _ (by kernel_rfl) .nil ?_
            refine Wc.ret ?_
            obtain rfl := Option.some.inj h193
            obtain rfl := Option.some.inj h
            exact ⟨.inl rfl, by kernel_rfl, by kernel_rfl⟩
          · refine Wc.condF h197 (by kernel_rfl) ?_
            refine Wc.fix (st' := ⟨[(1, (.ptr 1 0, [])), (3, (.mp 14, [])), (4, (.v (.int .i64 b196_), [])), (5, (.ptr 5 0, [])), (16, (.v (.sl (List.map GCell.c e195_.gCells)), [])), (17, (.v (.int .i64 (e195_.gCells.length : Int)), [])), (18, (.v (.int .i64 b196_), []))], [(1, .cells [.sl (List.map GCell.c e195_.gCells), .sl (List.map cI.i64 e195_.gTrail)] []), (5, .cells [.int .i64 c198_.gKind, .str c198_.gName, .int .i64 c198_.gNum, .int .i64 c198_.gTo, .sl (List.map cI.i64 c198_.gKids)] []), (14, .map (mgk o197_) (mgv o197_))], []⟩) [] [1, 3, 4, 5, 16, 17, 18] [1, 5, 14] [] (by kernel_rfl) ?_
            refine Wc.skip ?_
            refine Wc.seqJ (fun st => ∃ (o200_ : List (Int × Int)), st = ⟨[(1, (.ptr 1 0, [])), (3, (.mp 14, [])), (5, (.ptr 5 0, [])), (16, (.v (.sl (List.map GCell.c e195_.gCells)), [])), (17, (.v (.int .i64 (e195_.gCells.length : Int)), [])), (18, (.v (.int .i64 b196_), []))], [(1, .cells [.sl (List.map GCell.c e195_.gCells), .sl (List.map cI.i64 e195_.gTrail)] []), (5, .cells [.int .i64 c198_.gKind, .str c198_.gName, .int .i64 c198_.gNum, .int .i64 c198_.gTo, .sl (List.map cI.i64 c198_.gKids)] []), (14, .map (mgk o200_) (mgv o200_))], []⟩ ∧ pimpl_HeapOk_J2 k (pimpl_HeapOk_L1 k e195_ m) c198_ e195_ b196_ o200_ = some out1) ?_ ?_
            · refine Wc.seq ?_
              refine Wc.region [] [] [1, 3, 4, 5, 16, 17, 18, 29] [1, 5, 14] [] ⟨[(1, (.ptr 1 0, [])), (3, (.mp 14, [])), (4, (.v (.int .i64 b196_), [])), (5, (.ptr 5 0, [])), (16, (.v (.sl (List.map GCell.c e195_.gCells)), [])), (17, (.v (.int .i64 (e195_.gCells.length : Int)), [])), (18, (.v (.int .i64 b196_), [])), (29, (.v (.bool (c198_.gKind == 1)), []))], [(1, .cells [.sl (List.map GCell.c e195_.gCells), .sl (List.map cI.i64 e195_.gTrail)] []), (5, .cells [.int .i64 c198_.gKind, .str c198_.gName, .int .i64 c198_.gNum, .int .i64 c198_.gTo, .sl (List.map cI.i64 c198_.gKids)] []), (14, .map (mgk o197_) (mgv o197_))], []⟩ _ (by kernel_rfl) .nil ?_
              rcases oif h193 with ⟨h203, h193⟩ | ⟨h203, h193⟩
              · refine Wc.condT h203 (by kernel_rfl) ?_
                refine Wc.seq ?_
                refine Wc.region [{}, {}, {}, { v := some (.int .i64 (mget o197_ c198_.gNum)) }, {}, { c := some [mgk (mset o197_ c198_.gNum (wr.i64 ((mget o197_ c198_.gNum) + 1))), mgv (mset o197_ c198_.gNum (wr.i64 ((mget o197_ c198_.gNum) + 1)))] }] [] [1, 3, 4, 5, 16, 17, 18] [1, 5, 14] [] ⟨[(1, (.ptr 1 0, [])), (3, (.mp 14, [])), (4, (.v (.int .i64 b196_), [])), (5, (.ptr 5 0, [])), (16, (.v (.sl (List.map GCell.c e195_.gCells)), [])), (17, (.v (.int .i64 (e195_.gCells.length : Int)), [])), (18, (.v (.int .i64 b196_), []))], [(1, .cells [.sl (List.map GCell.c e195_.gCells), .sl (List.map cI.i64 e195_.gTrail)] []), (5, .cells [.int .i64 c198_.gKind, .str c198_.gName, .int .i64 c198_.gNum, .int .i64 c198_.gTo, .sl (List.map cI.i64 c198_.gKids)] []), (14, .map (mgk (mset o197_ c198_.gNum (wr.i64 ((mget o197_ c198_.gNum) + 1)))) (mgv (mset o197_ c198_.gNum (wr.i64 ((mget o197_ c198_.gNum) + 1)))))], []⟩ _ (by kernel_rfl) (.cons (mapget_obl o197_ c198_.gNum) (.cons (mapset_obl o197_ c198_.gNum (wr.i64 ((mget o197_ c198_.gNum) + 1))) .nil)) ?_
                refine Wc.seq ?_
                rcases oif h193 with ⟨h204, h193⟩ | ⟨h204, h193⟩
                · refine Wc.region [{}, {}, {}, { v := some (.int .i64 (mget (mset o197_ c198_.gNum (wr.i64 ((mget o197_ c198_.gNum) + 1))) c198_.gNum)) }, {}, { re := some (.bool true) }] [] [1, 3, 5, 16, 17, 18, 57] [1, 5, 14] [] ⟨[(1, (.ptr 1 0, [])), (3, (.mp 14, [])), (5, (.ptr 5 0, [])), (16, (.v (.sl (List.map GCell.c e195_.gCells)), [])), (17, (.v (.int .i64 (e195_.gCells.length : Int)), [])), (18, (.v (.int .i64 b196_), [])), (57, (.v (.bool true), []))], [(1, .cells [.sl (List.map GCell.c e195_.gCells), .sl (List.map cI.i64 e195_.gTrail)] []), (5, .cells [.int .i64 c198_.gKind, .str c198_.gName, .int .i64 c198_.gNum, .int .i64 c198_.gTo, .sl (List.map cI.i64 c198_.gKids)] []), (14, .map (mgk (mset o197_ c198_.gNum (wr.i64 ((mget o197_ c198_.gNum) + 1)))) (mgv (mset o197_ c198_.gNum (wr.i64 ((mget o197_ c198_.gNum) + 1)))))], []⟩ _ (by kernel_rfl) (.cons (mapget_obl (mset o197_ c198_.gNum (wr.i64 ((mget o197_ c198_.gNum) + 1))) c198_.gNum) (.cons (congrArg AV.bool h204) .nil)) ?_
                  refine Wc.condT rfl (by kernel_rfl) ?_
                  refine Wc.seq ?_
                  refine Wc.region [] [] [2] [] [] ⟨[(2, (.v (.bool false), []))], [], []⟩ _ (by kernel_rfl) .nil ?_
                  refine Wc.ret ?_
                  obtain rfl := Option.some.inj h193
                  obtain rfl := Option.some.inj h
                  exact ⟨.inl rfl, by kernel_rfl, by kernel_rfl⟩
                · rcases oif h193 with ⟨h205, h193⟩ | ⟨h205, h193⟩
                  · obtain ⟨g204_, h206, h193⟩ := obind h193
                    rcases oif h193 with ⟨h207, h193⟩ | ⟨h207, h193⟩
                    · refine Wc.region [{}, {}, {}, { v := some (.int .i64 (mget (mset o197_ c198_.gNum (wr.i64 ((mget o197_ c198_.gNum) + 1))) c198_.gNum)) }, {}, { re := some (.bool false) }, {}, {}, {}, { re := some (.bool true) }, {}, {}, {}, { r := some (.v (.bool g204_) []) }, {}, {}, {}, { re := some (.bool true) }] [] [1, 3, 5, 16, 17, 18, 57] [1, 5, 14] [] ⟨[(1, (.ptr 1 0, [])), (3, (.mp 14, [])), (5, (.ptr 5 0, [])), (16, (.v (.sl (List.map GCell.c e195_.gCells)), [])), (17, (.v (.int .i64 (e195_.gCells.length : Int)), [])), (18, (.v (.int .i64 b196_), [])), (57, (.v (.bool true), []))], [(1, .cells [.sl (List.map GCell.c e195_.gCells), .sl (List.map cI.i64 e195_.gTrail)] []), (5, .cells [.int .i64 c198_.gKind, .str c198_.gName, .int .i64 c198_.gNum, .int .i64 c198_.gTo, .sl (List.map cI.i64 c198_.gKids)] []), (14, .map (mgk (mset o197_ c198_.gNum (wr.i64 ((mget o197_ c198_.gNum) + 1)))) (mgv (mset o197_ c198_.gNum (wr.i64 ((mget o197_ c198_.gNum) + 1)))))], []⟩ _ (by kernel_rfl) (.cons (mapget_obl (mset o197_ c198_.gNum (wr.i64 ((mget o197_ c198_.gNum) + 1))) c198_.gNum) (.cons (congrArg AV.bool h204) (.cons (congrArg AV.bool h205) (.cons (cimpl_isCell h206) (.cons (congrArg AV.bool h207) .nil))))) ?_
                      refine Wc.condT rfl (by kernel_rfl) ?_
                      refine Wc.seq ?_
                      refine Wc.region [] [] [2] [] [] ⟨[(2, (.v (.bool false), []))], [], []⟩ _ (by kernel_rfl) .nil ?_
                      refine Wc.ret ?_
                      obtain rfl := Option.some.inj h193
                      obtain rfl := Option.some.inj h
                      exact ⟨.inl rfl, by kernel_rfl, by kernel_rfl⟩
                    · obtain ⟨b205_, h208, h193⟩ := obind h193
                      refine Wc.region [{}, {}, {}, { v := some (.int .i64 (mget (mset o197_ c198_.gNum (wr.i64 ((mget o197_ c198_.gNum) + 1))) c198_.gNum)) }, {}, { re := some (.bool false) }, {}, {}, {}, { re := some (.bool true) }, {}, {}, {}, { r := some (.v (.bool g204_) []) }, {}, {}, {}, { re := some (.bool false) }, {}, {}, { r := some (.v (.int .i64 b205_) []) }] [] [1, 3, 5, 16, 17, 18, 57] [1, 5, 14] [] ⟨[(1, (.ptr 1 0, [])), (3, (.mp 14, [])), (5, (.ptr 5 0, [])), (16, (.v (.sl (List.map GCell.c e195_.gCells)), [])), (17, (.v (.int .i64 (e195_.gCells.length : Int)), [])), (18, (.v (.int .i64 b196_), [])), (57, (.v (.bool (decide (b205_ < 0))), []))], [(1, .cells [.sl (List.map GCell.c e195_.gCells), .sl (List.map cI.i64 e195_.gTrail)] []), (5, .cells [.int .i64 c198_.gKind, .str c198_.gName, .int .i64 c198_.gNum, .int .i64 c198_.gTo, .sl (List.map cI.i64 c198_.gKids)] []), (14, .map (mgk (mset o197_ c198_.gNum (wr.i64 ((mget o197_ c198_.gNum) + 1)))) (mgv (mset o197_ c198_.gNum (wr.i64 ((mget o197_ c198_.gNum) + 1)))))], []⟩ _ (by kernel_rfl) (.cons (mapget_obl (mset o197_ c198_.gNum (wr.i64 ((mget o197_ c198_.gNum) + 1))) c198_.gNum) (.cons (congrArg AV.bool h204) (.cons (congrArg AV.bool h205) (.cons (cimpl_isCell h206) (.cons (congrArg AV.bool h207) (.cons (cimpl_follow h208) .nil)))))) ?_
                      rcases oif h193 with ⟨h209, h193⟩ | ⟨h209, h193⟩
                      · refine Wc.condT h209 (by kernel_rfl) ?_
                        refine Wc.seq ?_
                        refine Wc.region [] [] [2] [] [] ⟨[(2, (.v (.bool false), []))], [], []⟩ _ (by kernel_rfl) .nil ?_
                        refine Wc.ret ?_
                        obtain rfl := Option.some.inj h193
                        obtain rfl := Option.some.inj h
                        exact ⟨.inl rfl, by kernel_rfl, by kernel_rfl⟩
                      · refine Wc.condF h209 (by kernel_rfl) ?_
                        refine Wc.fix (st' := ⟨[(1, (.ptr 1 0, [])), (3, (.mp 14, [])), (5, (.ptr 5 0, [])), (16, (.v (.sl (List.map GCell.c e195_.gCells)), [])), (17, (.v (.int .i64 (e195_.gCells.length : Int)), [])), (18, (.v (.int .i64 b196_), []))], [(1, .cells [.sl (List.map GCell.c e195_.gCells), .sl (List.map cI.i64 e195_.gTrail)] []), (5, .cells [.int .i64 c198_.gKind, .str c198_.gName, .int .i64 c198_.gNum, .int .i64 c198_.gTo, .sl (List.map cI.i64 c198_.gKids)] []), (14, .map (mgk (mset o197_ c198_.gNum (wr.i64 ((mget o197_ c198_.gNum) + 1)))) (mgv (mset o197_ c198_.gNum (wr.i64 ((mget o197_ c198_.gNum) + 1)))))], []⟩) [] [1, 3, 5, 16, 17, 18] [1, 5, 14] [] (by kernel_rfl) ?_
                        refine Wc.skip ?_
                        exact ⟨_, rfl, h193⟩
                  · obtain ⟨b204_, h206, h193⟩ := obind h193
                    refine Wc.region [{}, {}, {}, { v := some (.int .i64 (mget (mset o197_ c198_.gNum (wr.i64 ((mget o197_ c198_.gNum) + 1))) c198_.gNum)) }, {}, { re := some (.bool false) }, {}, {}, {}, { re := some (.bool false) }, {}, {}, {}, {}, {}, {}, {}, {}, {}, {}, { r := some (.v (.int .i64 b204_) []) }] [] [1, 3, 5, 16, 17, 18, 57] [1, 5, 14] [] ⟨[(1, (.ptr 1 0, [])), (3, (.mp 14, [])), (5, (.ptr 5 0, [])), (16, (.v (.sl (List.map GCell.c e195_.gCells)), [])), (17, (.v (.int .i64 (e195_.gCells.length : Int)), [])), (18, (.v (.int .i64 b196_), [])), (57, (.v (.bool (decide (b204_ < 0))), []))], [(1, .cells [.sl (List.map GCell.c e195_.gCells), .sl (List.map cI.i64 e195_.gTrail)] []), (5, .cells [.int .i64 c198_.gKind, .str c198_.gName, .int .i64 c198_.gNum, .int .i64 c198_.gTo, .sl (List.map cI.i64 c198_.gKids)] []), (14, .map (mgk (mset o197_ c198_.gNum (wr.i64 ((mget o197_ c198_.gNum) + 1)))) (mgv (mset o197_ c198_.gNum (wr.i64 ((mget o197_ c198_.gNum) + 1)))))], []⟩ _ (by kernel_rfl) (.cons (mapget_obl (mset o197_ c198_.gNum (wr.i64 ((mget o197_ c198_.gNum) + 1))) c198_.gNum) (.cons (congrArg AV.bool h204) (.cons (congrArg AV.bool h205) (.cons (cimpl_follow h206) .nil)))) ?_
                    rcases oif h193 with ⟨h210, h193⟩ | ⟨h210, h193⟩
                    · refine Wc.condT h210 (by kernel_rfl) ?_
                      refine Wc.seq ?_
                      refine Wc.region [] [] [2] [] [] ⟨[(2, (.v (.bool false), []))], [], []⟩ _ (by kernel_rfl) .nil ?_
                      refine Wc.ret ?_
                      obtain rfl := Option.some.inj h193
                      obtain rfl := Option.some.inj h
                      exact ⟨.inl rfl, by kernel_rfl, by kernel_rfl⟩
                    · refine Wc.condF h210 (by kernel_rfl) ?_
                      refine Wc.fix (st' := ⟨[(1, (.ptr 1 0, [])), (3, (.mp 14, [])), (5, (.ptr 5 0, [])), (16, (.v (.sl (List.map GCell.c e195_.gCells)), [])), (17, (.v (.int .i64 (e195_.gCells.length : Int)), [])), (18, (.v (.int .i64 b196_), []))], [(1, .cells [.sl (List.map GCell.c e195_.gCells), .sl (List.map cI.i64 e195_.gTrail)] []), (5, .cells [.int .i64 c198_.gKind, .str c198_.gName, .int .i64 c198_.gNum, .int .i64 c198_.gTo, .sl (List.map cI.i64 c198_.gKids)] []), (14, .map (mgk (mset o197_ c198_.gNum (wr.i64 ((mget o197_ c198_.gNum) + 1)))) (mgv (mset o197_ c198_.gNum (wr.i64 ((mget o197_ c198_.gNum) + 1)))))], []⟩) [] [1, 3, 5, 16, 17, 18] [1, 5, 14] [] (by kernel_rfl) ?_
                      refine Wc.skip ?_
                      exact ⟨_, rfl, h193⟩
              · refine Wc.condF h203 (by kernel_rfl) ?_
                refine Wc.fix (st' := ⟨[(1, (.ptr 1 0, [])), (3, (.mp 14, [])), (5, (.ptr 5 0, [])), (16, (.v (.sl (List.map GCell.c e195_.gCells)), [])), (17, (.v (.int .i64 (e195_.gCells.length : Int)), [])), (18, (.v (.int .i64 b196_), []))], [(1, .cells [.sl (List.map GCell.c e195_.gCells), .sl (List.map cI.i64 e195_.gTrail)] []), (5, .cells [.int .i64 c198_.gKind, .str c198_.gName, .int .i64 c198_.gNum, .int .i64 c198_.gTo, .sl (List.map cI.i64 c198_.gKids)] []), (14, .map (mgk o197_) (mgv o197_))], []⟩) [] [1, 3, 5, 16, 17, 18] [1, 5, 14] [] (by kernel_rfl) ?_
                refine Wc.skip ?_
                exact ⟨_, rfl, h193⟩
            · rintro st ⟨o200_, rfl, h193⟩
              refine Wc.seq ?_
              refine Wc.region [{}, {}, { v := some (.int .i64 (c198_.gKids.length : Int)) }] [] [1, 3, 16, 17, 18, 59, 60, 61] [1, 14] [] ⟨[(1, (.ptr 1 0, [])), (3, (.mp 14, [])), (16, (.v (.sl (List.map GCell.c e195_.gCells)), [])), (17, (.v (.int .i64 (e195_.gCells.length : Int)), [])), (18, (.v (.int .i64 b196_), [])), (59, (.v (.sl (List.map cI.i64 c198_.gKids)), [])), (60, (.v (.int .i64 (c198_.gKids.length : Int)), [])), (61, (.v (.int .i64 0), []))], [(1, .cells [.sl (List.map GCell.c e195_.gCells), .sl (List.map cI.i64 e195_.gTrail)] []), (14, .map (mgk o200_) (mgv o200_))], []⟩ _ (by kernel_rfl) (.cons (len_obl cI.i64 c198_.gKids) .nil) ?_
              obtain ⟨out3, h198, h193⟩ := obind h193
              refine Wc.lastJ (fun st => out3 = .done () ∧ st = ⟨[(1, (.ptr 1 0, [])), (3, (.mp 14, [])), (16, (.v (.sl (List.map GCell.c e195_.gCells)), [])), (17, (.v (.int .i64 (e195_.gCells.length : Int)), [])), (18, (.v (.int .i64 b196_), []))], [(1, .cells [.sl (List.map GCell.c e195_.gCells), .sl (List.map cI.i64 e195_.gTrail)] []), (14, .map (mgk o200_) (mgv o200_))], []⟩) ?_ ?_
              · refine Wc.block ?_
                refine Wc.loop (fun m st => ∃ (b201_ : Int), st = ⟨[(1, (.ptr 1 0, [])), (3, (.mp 14, [])), (16, (.v (.sl (List.map GCell.c e195_.gCells)), [])), (17, (.v (.int .i64 (e195_.gCells.length : Int)), [])), (18, (.v (.int .i64 b196_), [])), (59, (.v (.sl (List.map cI.i64 c198_.gKids)), [])), (60, (.v (.int .i64 (c198_.gKids.length : Int)), [])), (61, (.v (.int .i64 b201_), []))], [(1, .cells [.sl (List.map GCell.c e195_.gCells), .sl (List.map cI.i64 e195_.gTrail)] []), (14, .map (mgk o200_) (mgv o200_))], []⟩ ∧ pimpl_HeapOk_L3 k c198_ e195_ m b201_ = some out3) ?_ k ⟨_, rfl, h198⟩
                rintro m st ⟨b201_, rfl, h198⟩
                cases m with
                | zero => exact (onone h198).elim
                | succ m =>
                  refine Wc.seq ?_
                  refine Wc.region [] [] [1, 3, 16, 17, 18, 59, 60, 61, 62] [1, 14] [] ⟨[(1, (.ptr 1 0, [])), (3, (.mp 14, [])), (16, (.v (.sl (List.map GCell.c e195_.gCells)), [])), (17, (.v (.int .i64 (e195_.gCells.length : Int)), [])), (18, (.v (.int .i64 b196_), [])), (59, (.v (.sl (List.map cI.i64 c198_.gKids)), [])), (60, (.v (.int .i64 (c198_.gKids.length : Int)), [])), (61, (.v (.int .i64 b201_), [])), (62, (.v (.bool (decide (b201_ < (c198_.gKids.length : Int)))), []))], [(1, .cells [.sl (List.map GCell.c e195_.gCells), .sl (List.map cI.i64 e195_.gTrail)] []), (14, .map (mgk o200_) (mgv o200_))], []⟩ _ (by kernel_rfl) .nil ?_
                  refine Wc.seq ?_
                  rcases oif h198 with ⟨h199, h198⟩ | ⟨h199, h198⟩
                  · refine Wc.condT h199 (by kernel_rfl) ?_
                    refine Wc.fix (st' := ⟨[(1, (.ptr 1 0, [])), (3, (.mp 14, [])), (16, (.v (.sl (List.map GCell.c e195_.gCells)), [])), (17, (.v (.int .i64 (e195_.gCells.length : Int)), [])), (18, (.v (.int .i64 b196_), [])), (59, (.v (.sl (List.map cI.i64 c198_.gKids)), [])), (60, (.v (.int .i64 (c198_.gKids.length : Int)), [])), (61, (.v (.int .i64 b201_), []))], [(1, .cells [.sl (List.map GCell.c e195_.gCells), .sl (List.map cI.i64 e195_.gTrail)] []), (14, .map (mgk o200_) (mgv o200_))], []⟩) [] [1, 3, 16, 17, 18, 59, 60, 61] [1, 14] [] (by kernel_rfl) ?_
                    refine Wc.skip ?_
                    refine Wc.seq ?_
                    refine Wc.block ?_
                    refine Wc.seq ?_
                    obtain ⟨b202_, h200, h198⟩ := obind h198
                    refine Wc.region [{ v := some (.vptr [.int .i64 b202_]) }] [] [1, 3, 7, 16, 17, 18, 59, 60, 61] [1, 14] [] ⟨[(1, (.ptr 1 0, [])), (3, (.mp 14, [])), (7, (.v (.int .i64 b202_), [])), (16, (.v (.sl (List.map GCell.c e195_.gCells)), [])), (17, (.v (.int .i64 (e195_.gCells.length : Int)), [])), (18, (.v (.int .i64 b196_), [])), (59, (.v (.sl (List.map cI.i64 c198_.gKids)), [])), (60, (.v (.int .i64 (c198_.gKids.length : Int)), [])), (61, (.v (.int .i64 b201_), []))], [(1, .cells [.sl (List.map GCell.c e195_.gCells), .sl (List.map cI.i64 e195_.gTrail)] []), (14, .map (mgk o200_) (mgv o200_))], []⟩ _ (by kernel_rfl) (.cons (at_obl (c := cI.i64) rfl cI.i64_len h200) (.cons (len_ok 1 [.int .i64 b202_]) .nil)) ?_
                    refine Wc.seq ?_
                    obtain ⟨g203_, h201, h198⟩ := obind h198
                    refine Wc.region [{}, {}, { r := some (.v (.bool g203_) []) }] [] [1, 3, 16, 17, 18, 59, 60, 61, 68] [1, 14] [] ⟨[(1, (.ptr 1 0, [])), (3, (.mp 14, [])), (16, (.v (.sl (List.map GCell.c e195_.gCells)), [])), (17, (.v (.int .i64 (e195_.gCells.length : Int)), [])), (18, (.v (.int .i64 b196_), [])), (59, (.v (.sl (List.map cI.i64 c198_.gKids)), [])), (60, (.v (.int .i64 (c198_.gKids.length : Int)), [])), (61, (.v (.int .i64 b201_), [])), (68, (.v (.bool (!g203_)), []))], [(1, .cells [.sl (List.map GCell.c e195_.gCells), .sl (List.map cI.i64 e195_.gTrail)] []), (14, .map (mgk o200_) (mgv o200_))], []⟩ _ (by kernel_rfl) (.cons (cimpl_isCell h201) .nil) ?_
                    rcases oif h198 with ⟨h202, h198⟩ | ⟨h202, h198⟩
                    · refine Wc.condT h202 (by kernel_rfl) ?_
                      refine Wc.seq ?_
                      refine Wc.region [] [] [2] [] [] ⟨[(2, (.v (.bool false), []))], [], []⟩ _ (by kernel_rfl) .nil ?_
                      refine Wc.ret ?_
                      obtain rfl := Option.some.inj h198
                      obtain rfl := Option.some.inj h193
                      obtain rfl := Option.some.inj h
                      exact ⟨.inl rfl, by kernel_rfl, by kernel_rfl⟩
                    · refine Wc.condF h202 (by kernel_rfl) ?_
                      refine Wc.fix (st' := ⟨[(1, (.ptr 1 0, [])), (3, (.mp 14, [])), (16, (.v (.sl (List.map GCell.c e195_.gCells)), [])), (17, (.v (.int .i64 (e195_.gCells.length : Int)), [])), (18, (.v (.int .i64 b196_), [])), (59, (.v (.sl (List.map cI.i64 c198_.gKids)), [])), (60, (.v (.int .i64 (c198_.gKids.length : Int)), [])), (61, (.v (.int .i64 b201_), []))], [(1, .cells [.sl (List.map GCell.c e195_.gCells), .sl (List.map cI.i64 e195_.gTrail)] []), (14, .map (mgk o200_) (mgv o200_))], []⟩) [] [1, 3, 16, 17, 18, 59, 60, 61] [1, 14] [] (by kernel_rfl) ?_
                      refine Wc.skip ?_
                      refine Wc.region [] [] [1, 3, 16, 17, 18, 59, 60, 61] [1, 14] [] ⟨[(1, (.ptr 1 0, [])), (3, (.mp 14, [])), (16, (.v (.sl (List.map GCell.c e195_.gCells)), [])), (17, (.v (.int .i64 (e195_.gCells.length : Int)), [])), (18, (.v (.int .i64 b196_), [])), (59, (.v (.sl (List.map cI.i64 c198_.gKids)), [])), (60, (.v (.int .i64 (c198_.gKids.length : Int)), [])), (61, (.v (.int .i64 (wr.i64 (b201_ + 1))), []))], [(1, .cells [.sl (List.map GCell.c e195_.gCells), .sl (List.map cI.i64 e195_.gTrail)] []), (14, .map (mgk o200_) (mgv o200_))], []⟩ _ (by kernel_rfl) .nil ?_
                      exact ⟨_, Nat.lt_succ_self _, _, rfl, h198⟩
                  · refine Wc.condF h199 (by kernel_rfl) ?_
                    refine Wc.fix (st' := ⟨[(1, (.ptr 1 0, [])), (3, (.mp 14, [])), (16, (.v (.sl (List.map GCell.c e195_.gCells)), [])), (17, (.v (.int .i64 (e195_.gCells.length : Int)), [])), (18, (.v (.int .i64 b196_), []))], [(1, .cells [.sl (List.map GCell.c e195_.gCells), .sl (List.map cI.i64 e195_.gTrail)] []), (14, .map (mgk o200_) (mgv o200_))], []⟩) [] [1, 3, 16, 17, 18] [1, 14] [] (by kernel_rfl) ?_
                    refine Wc.exit ?_
                    obtain rfl := Option.some.inj h198
                    exact ⟨rfl, rfl⟩
              · rintro st ⟨rfl, rfl⟩
                refine Wc.region [] [] [1, 3, 16, 17, 18] [1, 14] [] ⟨[(1, (.ptr 1 0, [])), (3, (.mp 14, [])), (16, (.v (.sl (List.map GCell.c e195_.gCells)), [])), (17, (.v (.int .i64 (e195_.gCells.length : Int)), [])), (18, (.v (.int .i64 (wr.i64 (b196_ + 1))), []))], [(1, .cells [.sl (List.map GCell.c e195_.gCells), .sl (List.map cI.i64 e195_.gTrail)] []), (14, .map (mgk o200_) (mgv o200_))], []⟩ _ (by kernel_rfl) .nil ?_
                exact ⟨_, Nat.lt_succ_self _, _, _, rfl, h193⟩
        · refine Wc.condF h194 (by kernel_rfl) ?_
          refine Wc.fix (st' := ⟨[(1, (.ptr 1 0, []))], [(1, .cells [.sl (List.map GCell.c e195_.gCells), .sl (List.map cI.i64 e195_.gTrail)] [])], []⟩) [] [1] [1] [] (by kernel_rfl) ?_
          refine Wc.exit ?_
          obtain rfl := Option.some.inj h193
          exact ⟨rfl, rfl⟩
    · rintro st ⟨rfl, rfl⟩
      refine Wc.seq ?_
      refine Wc.seq ?_
      refine Wc.region [{}, {}, { v := some (.int .i64 (e195_.gTrail.length : Int)) }] [] [1, 72, 73, 74] [1] [] ⟨[(1, (.ptr 1 0, [])), (72, (.v (.sl (List.map cI.i64 e195_.gTrail)), [])), (73, (.v (.int .i64 (e195_.gTrail.length : Int)), [])), (74, (.v (.int .i64 0), []))], [(1, .cells [.sl (List.map GCell.c e195_.gCells), .sl (List.map cI.i64 e195_.gTrail)] [])], []⟩ _ (by kernel_rfl) (.cons (len_obl cI.i64 e195_.gTrail) .nil) ?_
      obtain ⟨out4, h211, h⟩ := obind h
      refine Wc.lastJ (fun st => out4 = .done () ∧ st = ⟨[], [], []⟩) ?_ ?_
      · refine Wc.block ?_
        refine Wc.loop (fun m st => ∃ (b206_ : Int), st = ⟨[(1, (.ptr 1 0, [])), (72, (.v (.sl (List.map cI.i64 e195_.gTrail)), [])), (73, (.v (.int .i64 (e195_.gTrail.length : Int)), [])), (74, (.v (.int .i64 b206_), []))], [(1, .cells [.sl (List.map GCell.c e195_.gCells), .sl (List.map cI.i64 e195_.gTrail)] [])], []⟩ ∧ pimpl_HeapOk_L4 k e195_ m b206_ = some out4) ?_ k ⟨_, rfl, h211⟩
        rintro m st ⟨b206_, rfl, h211⟩
        cases m with
        | zero => exact (onone h211).elim
        | succ m =>
          refine Wc.seq ?_
          refine Wc.region [] [] [1, 72, 73, 74, 75] [1] [] ⟨[(1, (.ptr 1 0, [])), (72, (.v (.sl (List.map cI.i64 e195_.gTrail)), [])), (73, (.v (.int .i64 (e195_.gTrail.length : Int)), [])), (74, (.v (.int .i64 b206_), [])), (75, (.v (.bool (decide (b206_ < (e195_.gTrail.length : Int)))), []))], [(1, .cells [.sl (List.map GCell.c e195_.gCells), .sl (List.map cI.i64 e195_.gTrail)] [])], []⟩ _ (by kernel_rfl) .nil ?_
          refine Wc.seq ?_
          rcases oif h211 with ⟨h212, h211⟩ | ⟨h212, h211⟩
          · refine Wc.condT h212 (by kernel_rfl) ?_
            refine Wc.fix (st' := ⟨[(1, (.ptr 1 0, [])), (72, (.v (.sl (List.map cI.i64 e195_.gTrail)), [])), (73, (.v (.int .i64 (e195_.gTrail.length : Int)), [])), (74, (.v (.int .i64 b206_), []))], [(1, .cells [.sl (List.map GCell.c e195_.gCells), .sl (List.map cI.i64 e195_.gTrail)] [])], []⟩) [] [1, 72, 73, 74] [1] [] (by kernel_rfl) ?_
            refine Wc.skip ?_
            refine Wc.seq ?_
            refine Wc.block ?_
            refine Wc.seq ?_
            obtain ⟨b207_, h213, h211⟩ := obind h211
            refine Wc.region [{ v := some (.vptr [.int .i64 b207_]) }] [] [1, 9, 72, 73, 74] [1] [] ⟨[(1, (.ptr 1 0, [])), (9, (.v (.int .i64 b207_), [])), (72, (.v (.sl (List.map cI.i64 e195_.gTrail)), [])), (73, (.v (.int .i64 (e195_.gTrail.length : Int)), [])), (74, (.v (.int .i64 b206_), []))], [(1, .cells [.sl (List.map GCell.c e195_.gCells), .sl (List.map cI.i64 e195_.gTrail)] [])], []⟩ _ (by kernel_rfl) (.cons (at_obl (c := cI.i64) rfl cI.i64_len h213) (.cons (len_ok 1 [.int .i64 b207_]) .nil)) ?_
            refine Wc.seq ?_
            obtain ⟨g208_, h214, h211⟩ := obind h211
            rcases oif h211 with ⟨h215, h211⟩ | ⟨h215, h211⟩
            · refine Wc.region [{}, {}, { r := some (.v (.bool g208_) []) }, {}, { re := some (.bool true) }] [] [1, 72, 73, 74, 90] [1] [] ⟨[(1, (.ptr 1 0, [])), (72, (.v (.sl (List.map cI.i64 e195_.gTrail)), [])), (73, (.v (.int .i64 (e195_.gTrail.length : Int)), [])), (74, (.v (.int .i64 b206_), [])), (90, (.v (.bool true), []))], [(1, .cells [.sl (List.map GCell.c e195_.gCells), .sl (List.map cI.i64 e195_.gTrail)] [])], []⟩ _ (by kernel_rfl) (.cons (cimpl_isCell h214) (.cons (congrArg AV.bool h215) .nil)) ?_
              refine Wc.condT rfl (by kernel_rfl) ?_
              refine Wc.seq ?_
              refine Wc.region [] [] [2] [] [] ⟨[(2, (.v (.bool false), []))], [], []⟩ _ (by kernel_rfl) .nil ?_
              refine Wc.ret ?_
              obtain rfl := Option.some.inj h211
              obtain rfl := Option.some.inj h
              exact ⟨.inl rfl, by kernel_rfl, by kernel_rfl⟩
            · obtain ⟨c209_, h216, h211⟩ := obind h211
              refine Wc.region [{}, {}, { r := some (.v (.bool g208_) []) }, {}, { re := some (.bool false) }, {}, {}, {}, { v := some (.vptr [.int .i64 c209_.gKind, .str c209_.gName, .int .i64 c209_.gNum, .int .i64 c209_.gTo, .sl (List.map cI.i64 c209_.gKids)]) }] [] [1, 72, 73, 74, 90] [1] [] ⟨[(1, (.ptr 1 0, [])), (72, (.v (.sl (List.map cI.i64 e195_.gTrail)), [])), (73, (.v (.int .i64 (e195_.gTrail.length : Int)), [])), (74, (.v (.int .i64 b206_), [])), (90, (.v (.bool (c209_.gKind != 1)), []))], [(1, .cells [.sl (List.map GCell.c e195_.gCells), .sl (List.map cI.i64 e195_.gTrail)] [])], []⟩ _ (by kernel_rfl) (.cons (cimpl_isCell h214) (.cons (congrArg AV.bool h215) (.cons (at_obl (c := GCell.c) (GCell.c_eq c209_) GCell.c_len h216) (.cons (len_ok 1 [.int .i64 c209_.gKind, .str c209_.gName, .int .i64 c209_.gNum, .int .i64 c209_.gTo, .sl (List.map cI.i64 c209_.gKids)]) .nil)))) ?_
              rcases oif h211 with ⟨h217, h211⟩ | ⟨h217, h211⟩
              · refine Wc.condT h217 (by kernel_rfl) ?_
                refine Wc.seq ?_
                refine Wc.region [] [] [2] [] [] ⟨[(2, (.v (.bool false), []))], [], []⟩ _ (by kernel_rfl) .nil ?_
                refine Wc.ret ?_
                obtain rfl := Option.some.inj h211
                obtain rfl := Option.some.inj h
                exact ⟨.inl rfl, by kernel_rfl, by kernel_rfl⟩
              · refine Wc.condF h217 (by kernel_rfl) ?_
                refine Wc.fix (st' := ⟨[(1, (.ptr 1 0, [])), (72, (.v (.sl (List.map cI.i64 e195_.gTrail)), [])), (73, (.v (.int .i64 (e195_.gTrail.length : Int)), [])), (74, (.v (.int .i64 b206_), []))], [(1, .cells [.sl (List.map GCell.c e195_.gCells), .sl (List.map cI.i64 e195_.gTrail)] [])], []⟩) [] [1, 72, 73, 74] [1] [] (by kernel_rfl) ?_
                refine Wc.skip ?_
                refine Wc.region [] [] [1, 72, 73, 74] [1] [] ⟨[(1, (.ptr 1 0, [])), (72, (.v (.sl (List.map cI.i64 e195_.gTrail)), [])), (73, (.v (.int .i64 (e195_.gTrail.length : Int)), [])), (74, (.v (.int .i64 (wr.i64 (b206_ + 1))), []))], [(1, .cells [.sl (List.map GCell.c e195_.gCells), .sl (List.map cI.i64 e195_.gTrail)] [])], []⟩ _ (by kernel_rfl) .nil ?_
                exact ⟨_, Nat.lt_succ_self _, _, rfl, h211⟩
          · refine Wc.condF h212 (by kernel_rfl) ?_
            refine Wc.fix (st' := ⟨[], [], []⟩) [] [] [] [] (by kernel_rfl) ?_
            refine Wc.exit ?_
            obtain rfl := Option.some.inj h211
            exact ⟨rfl, rfl⟩
      · rintro st ⟨rfl, rfl⟩
        refine Wc.seq ?_
        refine Wc.region [] [] [2] [] [] ⟨[(2, (.v (.bool true), []))], [], []⟩ _ (by kernel_rfl) .nil ?_
        refine Wc.ret ?_
        obtain rfl := Option.some.inj h
        exact ⟨.inl rfl, by kernel_rfl, by kernel_rfl⟩

def pimpl_copyHeap_d_L1 (k : Nat) (e218_ : GHeap) : Nat → Int → GHeap → Option (Out GHeap GHeap)
  | 0, _, _ => none
  | m + 1, b219_, e220_ =>
    if (decide (b219_ < (e218_.gCells.length : Int))) = true then
      (at' e218_.gCells b219_).bind fun c222_ =>
      if ([] : List Int).length + c222_.gKids.length ≤ 1073741824 then
        if e220_.gCells.length + [c222_].length ≤ 1073741824 then
          pimpl_copyHeap_d_L1 k e218_ m (wr.i64 (b219_ + 1)) (GHeap.mk (e220_.gCells ++ [c222_]) e220_.gTrail)
        else none
      else none
    else
      some (.done e220_)
/-- impl.copyHeap -/
def pimpl_copyHeap_d (k : Nat) (e218_ : GHeap) : Option GHeap :=
  if ([] : List Int).length + e218_.gTrail.length ≤ 1073741824 then
    (pimpl_copyHeap_d_L1 k e218_ k 0 (GHeap.mk [] e218_.gTrail)).bind fun out1 => match out1 with
    | .ret r => some r
    | .done e221_ =>
      some e221_
  else none
theorem cimpl_copyHeap_d {k : Nat} {e218_ : GHeap} {r : GHeap} (h : pimpl_copyHeap_d k e218_ = some r) : FnO Try.prog 79 [.v (.agg [.sl (List.map GCell.c e218_.gCells), .sl (List.map cI.i64 e218_.gTrail)]) []] (.v (.agg [.slx, .slx]) [(0, .ex 110 true (List.map GCell.c r.gCells)), (1, .ex 3 true (List.map cI.i64 r.gTrail))]) [] := by
  refine FnO.of Try.func79 (rfl : Try.f79.body = some _) (Nat.le_of_ble_eq_true (by kernel_rfl)) (Nat.le_of_ble_eq_true (by kernel_rfl)) ?_
  intro w0 X0 Fin pv0 pb
  unfold pimpl_copyHeap_d at h
  refine Wc.seq ?_
  refine Wc.region [] [] [1, 2] [1, 2] [] ⟨[(1, (.ptr 1 0, [])), (2, (.ptr 2 0, []))], [(1, .cells [.sl (List.map GCell.c e218_.gCells), .sl (List.map cI.i64 e218_.gTrail)] []), (2, .cells [.sl (List.map GCell.c []), .sl (List.map cI.i64 [])] [(0, .app 110), (1, .app 3)])], []⟩ _ (by kernel_rfl) .nil ?_
  refine Wc.seq ?_
  obtain ⟨h224, h⟩ := oguard h
  refine Wc.region [{}, {}, { c := some (List.map cI.i64 e218_.gTrail), md := 2 }, { tk := [8] }, {}, { tk := [9] }] [] [1, 2, 3] [1, 2, 3] [] ⟨[(1, (.ptr 1 0, [])), (2, (.ptr 2 0, [])), (3, (.ptr 3 0, []))], [(1, .cells [.sl (List.map GCell.c e218_.gCells), .sl (List.map cI.i64 e218_.gTrail)] []), (2, .cells [.sl (List.map GCell.c []), .sl (List.map cI.i64 [])] [(0, .app 110), (1, .app 3)]), (3, .cells [.sl (List.map GCell.c []), .slx] [(0, .app 110), (1, .ex 3 true (List.map cI.i64 e218_.gTrail))])], []⟩ _ (by kernel_rfl) (.cons (app_re0 cI.i64 e218_.gTrail) (.cons (app_scal (c := cI.i64) (ys := e218_.gTrail) cI.i64_scal) (.cons (app_obl2 (c := cI.i64) (xs := []) (ys := e218_.gTrail) cI.i64_len h224) .nil))) ?_
  refine Wc.seq ?_
  refine Wc.seq ?_
  refine Wc.region [{}, {}, { v := some (.int .i64 (e218_.gCells.length : Int)) }] [] [2, 3, 11, 12, 13] [2, 3] [] ⟨[(2, (.ptr 2 0, [])), (3, (.ptr 3 0, [])), (11, (.v (.sl (List.map GCell.c e218_.gCells)), [])), (12, (.v (.int .i64 (e218_.gCells.length : Int)), [])), (13, (.v (.int .i64 0), []))], [(2, .cells [.sl (List.map GCell.c []), .sl (List.map cI.i64 [])] [(0, .app 110), (1, .app 3)]), (3, .cells [.sl (List.map GCell.c []), .slx] [(0, .app 110), (1, .ex 3 true (List.map cI.i64 e218_.gTrail))])], []⟩ _ (by kernel_rfl) (.cons (len_obl GCell.c e218_.gCells) .nil) ?_
  obtain ⟨out1, h225, h⟩ := obind h
  refine Wc.lastJ (fun st => ∃ (e221_ : GHeap), out1 = .done e221_ ∧ st = ⟨[(2, (.ptr 2 0, [])), (3, (.ptr 3 0, []))], [(2, .cells [.slx, .slx] [(0, .ex 110 true (List.map GCell.c [])), (1, .ex 3 true (List.map cI.i64 []))]), (3, .cells [.slx, .slx] [(0, .ex 110 true (List.map GCell.c e221_.gCells)), (1, .ex 3 true (List.map cI.i64 e221_.gTrail))])], []⟩) ?_ ?_
  · refine Wc.block ?_
    refine Wc.fix (st' := ⟨[(2, (.ptr 2 0, [])), (3, (.ptr 3 0, [])), (11, (.v (.sl (List.map GCell.c e218_.gCells)), [])), (12, (.v (.int .i64 (e218_.gCells.length : Int)), [])), (13, (.v (.int .i64 0), []))], [(2, .cells [.slx, .slx] [(0, .ex 110 true (List.map GCell.c [])), (1, .ex 3 true (List.map cI.i64 []))]), (3, .cells [.slx, .slx] [(0, .ex 110 true (List.map GCell.c [])), (1, .ex 3 true (List.map cI.i64 e218_.gTrail))])], []⟩) [.ow (.b 2 0) true, .ow (.b 2 1) true, .ow (.b 3 0) true] [2, 3, 11, 12, 13] [2, 3] [] (by kernel_rfl) ?_
    refine Wc.loop (fun m st => ∃ (b219_ : Int) (e220_ : GHeap), st = ⟨[(2, (.ptr 2 0, [])), (3, (.ptr 3 0, [])), (11, (.v (.sl (List.map GCell.c e218_.gCells)), [])), (12, (.v (.int .i64 (e218_.gCells.length : Int)), [])), (13, (.v (.int .i64 b219_), []))], [(2, .cells [.slx, .slx] [(0, .ex 110 true (List.map GCell.c [])), (1, .ex 3 true (List.map cI.i64 []))]), (3, .cells [.slx, .slx] [(0, .ex 110 true (List.map GCell.c e220_.gCells)), (1, .ex 3 true (List.map cI.i64 e220_.gTrail))])], []⟩ ∧ pimpl_copyHeap_d_L1 k e218_ m b219_ e220_ = some out1) ?_ k ⟨_, _, rfl, h225⟩
    rintro m st ⟨b219_, e220_, rfl, h225⟩
    cases m with
    | zero => exact (onone h225).elim
    | succ m =>
      refine Wc.seq ?_
      refine Wc.region [] [] [2, 3, 11, 12, 13, 14] [2, 3] [] ⟨[(2, (.ptr 2 0, [])), (3, (.ptr 3 0, [])), (11, (.v (.sl (List.map GCell.c e218_.gCells)), [])), (12, (.v (.int .i64 (e218_.gCells.length : Int)), [])), (13, (.v (.int .i64 b219_), [])), (14, (.v (.bool (decide (b219_ < (e218_.gCells.length : Int)))), []))], [(2, .cells [.slx, .slx] [(0, .ex 110 true (List.map GCell.c [])), (1, .ex 3 true (List.map cI.i64 []))]), (3, .cells [.slx, .slx] [(0, .ex 110 true (List.map GCell.c e220_.gCells)), (1, .ex 3 true (List.map cI.i64 e220_.gTrail))])], []⟩ _ (by kernel_rfl) .nil ?_
      refine Wc.seq ?_
      rcases oif h225 with ⟨h226, h225⟩ | ⟨h226, h225⟩
      · refine Wc.condT h226 (by kernel_rfl) ?_
        refine Wc.fix (st' := ⟨[(2, (.ptr 2 0, [])), (3, (.ptr 3 0, [])), (11, (.v (.sl (List.map GCell.c e218_.gCells)), [])), (12, (.v (.int .i64 (e218_.gCells.length : Int)), [])), (13, (.v (.int .i64 b219_), []))], [(2, .cells [.slx, .slx] [(0, .ex 110 true (List.map GCell.c [])), (1, .ex 3 true (List.map cI.i64 []))]), (3, .cells [.slx, .slx] [(0, .ex 110 true (List.map GCell.c e220_.gCells)), (1, .ex 3 true (List.map cI.i64 e220_.gTrail))])], []⟩) [] [2, 3, 11, 12, 13] [2, 3] [] (by kernel_rfl) ?_
        refine Wc.skip ?_
        refine Wc.seq ?_
        refine Wc.block ?_
        refine Wc.seq ?_
        obtain ⟨c222_, h227, h225⟩ := obind h225
        refine Wc.region [{ v := some (.vptr [.int .i64 c222_.gKind, .str c222_.gName, .int .i64 c222_.gNum, .int .i64 c222_.gTo, .sl (List.map cI.i64 c222_.gKids)]) }] [] [2, 3, 5, 11, 12, 13] [2, 3, 5] [] ⟨[(2, (.ptr 2 0, [])), (3, (.ptr 3 0, [])), (5, (.ptr 5 0, [])), (11, (.v (.sl (List.map GCell.c e218_.gCells)), [])), (12, (.v (.int .i64 (e218_.gCells.length : Int)), [])), (13, (.v (.int .i64 b219_), []))], [(2, .cells [.slx, .slx] [(0, .ex 110 true (List.map GCell.c [])), (1, .ex 3 true (List.map cI.i64 []))]), (3, .cells [.slx, .slx] [(0, .ex 110 true (List.map GCell.c e220_.gCells)), (1, .ex 3 true (List.map cI.i64 e220_.gTrail))]), (5, .cells [.int .i64 c222_.gKind, .str c222_.gName, .int .i64 c222_.gNum, .int .i64 c222_.gTo, .sl (List.map cI.i64 c222_.gKids)] [])], []⟩ _ (by kernel_rfl) (.cons (at_obl (c := GCell.c) (GCell.c_eq c222_) GCell.c_len h227) (.cons (len_ok 5 [.int .i64 c222_.gKind, .str c222_.gName, .int .i64 c222_.gNum, .int .i64 c222_.gTo, .sl (List.map cI.i64 c222_.gKids)]) .nil)) ?_
        refine Wc.seq ?_
        obtain ⟨h228, h225⟩ := oguard h225
        refine Wc.region [{}, {}, { c := some (List.map cI.i64 c222_.gKids), md := 2 }, {}, { tk := [19] }] [] [2, 3, 5, 11, 12, 13] [2, 3, 5] [] ⟨[(2, (.ptr 2 0, [])), (3, (.ptr 3 0, [])), (5, (.ptr 5 0, [])), (11, (.v (.sl (List.map GCell.c e218_.gCells)), [])), (12, (.v (.int .i64 (e218_.gCells.length : Int)), [])), (13, (.v (.int .i64 b219_), []))], [(2, .cells [.slx, .slx] [(0, .ex 110 true (List.map GCell.c [])), (1, .ex 3 true (List.map cI.i64 []))]), (3, .cells [.slx, .slx] [(0, .ex 110 true (List.map GCell.c e220_.gCells)), (1, .ex 3 true (List.map cI.i64 e220_.gTrail))]), (5, .cells [.int .i64 c222_.gKind, .str c222_.gName, .int .i64 c222_.gNum, .int .i64 c222_.gTo, .slx] [(4, .ex 3 true (List.map cI.i64 c222_.gKids))])], []⟩ _ (by kernel_rfl) (.cons (app_re0 cI.i64 c222_.gKids) (.cons (app_scal (c := cI.i64) (ys := c222_.gKids) cI.i64_scal) (.cons (app_obl2 (c := cI.i64) (xs := []) (ys := c222_.gKids) cI.i64_len h228) .nil))) ?_
        obtain ⟨h229, h225⟩ := oguard h225
        refine Wc.region [{}, { md := 1 }, { md := 1 }, { c := some (List.map GCell.c [c222_]), tk := [23], md := 2 }, { c := some (List.map GCell.c (e220_.gCells ++ [c222_])), tk := [22, 24], md := 2 }, {}, { tk := [25] }] [.so 3] [2, 3, 11, 12, 13] [2, 3] [] ⟨[(2, (.ptr 2 0, [])), (3, (.ptr 3 0, [])), (11, (.v (.sl (List.map GCell.c e218_.gCells)), [])), (12, (.v (.int .i64 (e218_.gCells.length : Int)), [])), (13, (.v (.int .i64 b219_), []))], [(2, .cells [.slx, .slx] [(0, .ex 110 true (List.map GCell.c [])), (1, .ex 3 true (List.map cI.i64 []))]), (3, .cells [.slx, .slx] [(0, .ex 110 true (List.map GCell.c (e220_.gCells ++ [c222_]))), (1, .ex 3 true (List.map cI.i64 e220_.gTrail))])], []⟩ _ (by kernel_rfl) (.cons (cl_cons (c := GCell.c) (x := c222_) (GCell.c_eq c222_) (cl_nil GCell.c)) (.cons (app_re2 GCell.c e220_.gCells [c222_]) (.cons (app_obl2 (c := GCell.c) (xs := e220_.gCells) (ys := [c222_]) GCell.c_len h229) .nil))) ?_
        refine Wc.region [] [] [2, 3, 11, 12, 13] [2, 3] [] ⟨[(2, (.ptr 2 0, [])), (3, (.ptr 3 0, [])), (11, (.v (.sl (List.map GCell.c e218_.gCells)), [])), (12, (.v (.int .i64 (e218_.gCells.length : Int)), [])), (13, (.v (.int .i64 (wr.i64 (b219_ + 1))), []))], [(2, .cells [.slx, .slx] [(0, .ex 110 true (List.map GCell.c [])), (1, .ex 3 true (List.map cI.i64 []))]), (3, .cells [.slx, .slx] [(0, .ex 110 true (List.map GCell.c (e220_.gCells ++ [c222_]))), (1, .ex 3 true (List.map cI.i64 e220_.gTrail))])], []⟩ _ (by kernel_rfl) .nil ?_
        exact ⟨_, Nat.lt_succ_self _, _, _, rfl, h225⟩
      · refine Wc.condF h226 (by kernel_rfl) ?_
        refine Wc.fix (st' := ⟨[(2, (.ptr 2 0, [])), (3, (.ptr 3 0, []))], [(2, .cells [.slx, .slx] [(0, .ex 110 true (List.map GCell.c [])), (1, .ex 3 true (List.map cI.i64 []))]), (3, .cells [.slx, .slx] [(0, .ex 110 true (List.map GCell.c e220_.gCells)), (1, .ex 3 true (List.map cI.i64 e220_.gTrail))])], []⟩) [] [2, 3] [2, 3] [] (by kernel_rfl) ?_
        refine Wc.exit ?_
        obtain rfl := Option.some.inj h225
        exact ⟨_, rfl, rfl⟩
  · rintro st ⟨e221_, rfl, rfl⟩
    refine Wc.seq ?_
    refine Wc.region [{ md := 1 }, { tk := [28] }] [] [2] [2] [] ⟨[(2, (.ptr 2 0, []))], [(2, .cells [.slx, .slx] [(0, .ex 110 true (List.map GCell.c e221_.gCells)), (1, .ex 3 true (List.map cI.i64 e221_.gTrail))])], []⟩ _ (by kernel_rfl) .nil ?_
    refine Wc.ret ?_
    obtain rfl := Option.some.inj h
    exact ⟨.inl rfl, by kernel_rfl, by kernel_rfl⟩
end Go.Proofs.Ytbfkmgenokhkgaa

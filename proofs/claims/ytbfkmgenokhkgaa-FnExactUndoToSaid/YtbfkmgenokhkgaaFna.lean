/- What the functions do, part 1. -/
import Derived.Test.YtbfkmgenokhkgaaTy
set_option linter.unusedVariables false
set_option linter.unusedSimpArgs false
namespace Go.Proofs.Ytbfkmgenokhkgaa
open Go.RowKit Go.Bv
/-- laws.szIntS -/
def plaws_szIntS (k : Nat) (a1_ : List Int) (b2_ : Int) : Option Int :=
  if (decide ((wr.i64 (b2_ - (a1_.length : Int))) < 0)) = true then
    some (-1)
  else
    some (wr.i64 (b2_ - (a1_.length : Int)))
theorem claws_szIntS {k : Nat} {a1_ : List Int} {b2_ : Int} {r : Int} (h : plaws_szIntS k a1_ b2_ = some r) : FnO Try.prog 75 [.v (.sl (List.map cI.i64 a1_)) [], .v (.int .i64 b2_) []] (.v (.int .i64 r) []) [] := by
  refine FnO.of Try.func75 (rfl : Try.f75.body = some _) (Nat.le_of_ble_eq_true (by kernel_rfl)) (Nat.le_of_ble_eq_true (by kernel_rfl)) ?_
  intro w0 X0 Fin pv0 pb
  unfold plaws_szIntS at h
  refine Wc.seq ?_
  refine Wc.region [] [] [0, 1] [] [] ⟨[(0, (.v (.sl (List.map cI.i64 a1_)), [])), (1, (.v (.int .i64 b2_), []))], [], []⟩ _ (by kernel_rfl) .nil ?_
  refine Wc.seq ?_
  refine Wc.region [{}, {}, { v := some (.int .i64 (a1_.length : Int)) }] [] [1] [] [] ⟨[(1, (.v (.int .i64 (wr.i64 (b2_ - (a1_.length : Int)))), []))], [], []⟩ _ (by kernel_rfl) (.cons (len_obl cI.i64 a1_) .nil) ?_
  refine Wc.seq ?_
  refine Wc.seq ?_
  refine Wc.region [] [] [1, 10] [] [] ⟨[(1, (.v (.int .i64 (wr.i64 (b2_ - (a1_.length : Int)))), [])), (10, (.v (.bool (decide ((wr.i64 (b2_ - (a1_.length : Int))) < 0))), []))], [], []⟩ _ (by kernel_rfl) .nil ?_
  rcases oif h with ⟨h1, h⟩ | ⟨h1, h⟩
  · refine Wc.condT h1 (by kernel_rfl) ?_
    refine Wc.seq ?_
    refine Wc.region [] [] [4] [] [] ⟨[(4, (.v (.int .i64 (-1)), []))], [], []⟩ _ (by kernel_rfl) .nil ?_
    refine Wc.ret ?_
    obtain rfl := Option.some.inj h
    exact ⟨.inl rfl, by kernel_rfl, by kernel_rfl⟩
  · refine Wc.condF h1 (by kernel_rfl) ?_
    refine Wc.fix (st' := ⟨[(1, (.v (.int .i64 (wr.i64 (b2_ - (a1_.length : Int)))), []))], [], []⟩) [] [1] [] [] (by kernel_rfl) ?_
    refine Wc.skip ?_
    refine Wc.seq ?_
    refine Wc.region [] [] [4] [] [] ⟨[(4, (.v (.int .i64 (wr.i64 (b2_ - (a1_.length : Int)))), []))], [], []⟩ _ (by kernel_rfl) .nil ?_
    refine Wc.ret ?_
    obtain rfl := Option.some.inj h
    exact ⟨.inl rfl, by kernel_rfl, by kernel_rfl⟩

/-- laws.szCell -/
def plaws_szCell (k : Nat) (c3_ : GCell) (b4_ : Int) : Option Int :=
  if (decide ((wr.i64 (b4_ - (c3_.gName.size : Int))) < 0)) = true then
    some (-1)
  else
    (plaws_szIntS k c3_.gKids (wr.i64 (b4_ - (c3_.gName.size : Int)))).bind fun b5_ =>
    if (decide (b5_ < 0)) = true then
      some (-1)
    else
      some b5_
theorem claws_szCell {k : Nat} {c3_ : GCell} {b4_ : Int} {r : Int} (h : plaws_szCell k c3_ b4_ = some r) : FnO Try.prog 111 [.v (.agg [.int .i64 c3_.gKind, .str c3_.gName, .int .i64 c3_.gNum, .int .i64 c3_.gTo, .sl (List.map cI.i64 c3_.gKids)]) [], .v (.int .i64 b4_) []] (.v (.int .i64 r) []) [] := by
  refine FnO.of Try.func111 (rfl : Try.f111.body = some _) (Nat.le_of_ble_eq_true (by kernel_rfl)) (Nat.le_of_ble_eq_true (by kernel_rfl)) ?_
  intro w0 X0 Fin pv0 pb
  unfold plaws_szCell at h
  refine Wc.seq ?_
  refine Wc.region [] [] [1, 2] [2] [] ⟨[(1, (.v (.int .i64 b4_), [])), (2, (.ptr 2 0, []))], [(2, .cells [.int .i64 c3_.gKind, .str c3_.gName, .int .i64 c3_.gNum, .int .i64 c3_.gTo, .sl (List.map cI.i64 c3_.gKids)] [])], []⟩ _ (by kernel_rfl) .nil ?_
  refine Wc.seq ?_
  refine Wc.region [] [] [1, 2] [2] [] ⟨[(1, (.v (.int .i64 (wr.i64 (b4_ - (c3_.gName.size : Int)))), [])), (2, (.ptr 2 0, []))], [(2, .cells [.int .i64 c3_.gKind, .str c3_.gName, .int .i64 c3_.gNum, .int .i64 c3_.gTo, .sl (List.map cI.i64 c3_.gKids)] [])], []⟩ _ (by kernel_rfl) .nil ?_
  refine Wc.seq ?_
  refine Wc.seq ?_
  refine Wc.region [] [] [1, 2, 11] [2] [] ⟨[(1, (.v (.int .i64 (wr.i64 (b4_ - (c3_.gName.size : Int)))), [])), (2, (.ptr 2 0, [])), (11, (.v (.bool (decide ((wr.i64 (b4_ - (c3_.gName.size : Int))) < 0))), []))], [(2, .cells [.int .i64 c3_.gKind, .str c3_.gName, .int .i64 c3_.gNum, .int .i64 c3_.gTo, .sl (List.map cI.i64 c3_.gKids)] [])], []⟩ _ (by kernel_rfl) .nil ?_
  rcases oif h with ⟨h2, h⟩ | ⟨h2, h⟩
  · refine Wc.condT h2 (by kernel_rfl) ?_
    refine Wc.seq ?_
    refine Wc.region [] [] [4] [] [] ⟨[(4, (.v (.int .i64 (-1)), []))], [], []⟩ _ (by kernel_rfl) .nil ?_
    refine Wc.ret ?_
    obtain rfl := Option.some.inj h
    exact ⟨.inl rfl, by kernel_rfl, by kernel_rfl⟩
  · refine Wc.condF h2 (by kernel_rfl) ?_
    refine Wc.fix (st' := ⟨[(1, (.v (.int .i64 (wr.i64 (b4_ - (c3_.gName.size : Int)))), [])), (2, (.ptr 2 0, []))], [(2, .cells [.int .i64 c3_.gKind, .str c3_.gName, .int .i64 c3_.gNum, .int .i64 c3_.gTo, .sl (List.map cI.i64 c3_.gKids)] [])], []⟩) [] [1, 2] [2] [] (by kernel_rfl) ?_
    refine Wc.skip ?_
    refine Wc.seq ?_
    obtain ⟨b5_, h3, h⟩ := obind h
    refine Wc.region [{}, {}, {}, { r := some (.v (.int .i64 b5_) []) }] [] [1] [] [] ⟨[(1, (.v (.int .i64 b5_), []))], [], []⟩ _ (by kernel_rfl) (.cons (claws_szIntS h3) .nil) ?_
    refine Wc.seq ?_
    refine Wc.seq ?_
    refine Wc.region [] [] [1, 17] [] [] ⟨[(1, (.v (.int .i64 b5_), [])), (17, (.v (.bool (decide (b5_ < 0))), []))], [], []⟩ _ (by kernel_rfl) .nil ?_
    rcases oif h with ⟨h4, h⟩ | ⟨h4, h⟩
    · refine Wc.condT h4 (by kernel_rfl) ?_
      refine Wc.seq ?_
      refine Wc.region [] [] [4] [] [] ⟨[(4, (.v (.int .i64 (-1)), []))], [], []⟩ _ (by kernel_rfl) .nil ?_
      refine Wc.ret ?_
      obtain rfl := Option.some.inj h
      exact ⟨.inl rfl, by kernel_rfl, by kernel_rfl⟩
    · refine Wc.condF h4 (by kernel_rfl) ?_
      refine Wc.fix (st' := ⟨[(1, (.v (.int .i64 b5_), []))], [], []⟩) [] [1] [] [] (by kernel_rfl) ?_
      refine Wc.skip ?_
      refine Wc.seq ?_
      refine Wc.region [] [] [4] [] [] ⟨[(4, (.v (.int .i64 b5_), []))], [], []⟩ _ (by kernel_rfl) .nil ?_
      refine Wc.ret ?_
      obtain rfl := Option.some.inj h
      exact ⟨.inl rfl, by kernel_rfl, by kernel_rfl⟩

def plaws_szCellS_L1 (k : Nat) (d6_ : List GCell) : Nat → Int → Int → Option (Out Int Int)
  | 0, _, _ => none
  | m + 1, b8_, b9_ =>
    if (decide (b9_ < (d6_.length : Int))) = true then
      (at' d6_ b9_).bind fun c11_ =>
      (plaws_szCell k c11_ b8_).bind fun b12_ =>
      if (decide (b12_ < 0)) = true then
        some (.ret (-1))
      else
        plaws_szCellS_L1 k d6_ m b12_ (wr.i64 (b9_ + 1))
    else
      some (.done b8_)
/-- laws.szCellS -/
def plaws_szCellS (k : Nat) (d6_ : List GCell) (b7_ : Int) : Option Int :=
  if (decide ((wr.i64 (b7_ - (d6_.length : Int))) < 0)) = true then
    some (-1)
  else
    (plaws_szCellS_L1 k d6_ k (wr.i64 (b7_ - (d6_.length : Int))) 0).bind fun out1 => match out1 with
    | .ret r => some r
    | .done b10_ =>
      some b10_
theorem claws_szCellS {k : Nat} {d6_ : List GCell} {b7_ : Int} {r : Int} (h : plaws_szCellS k d6_ b7_ = some r) : FnO Try.prog 74 [.v (.sl (List.map GCell.c d6_)) [], .v (.int .i64 b7_) []] (.v (.int .i64 r) []) [] := by
  refine FnO.of Try.func74 (rfl : Try.f74.body = some _) (Nat.le_of_ble_eq_true (by kernel_rfl)) (Nat.le_of_ble_eq_true (by kernel_rfl)) ?_
  intro w0 X0 Fin pv0 pb
  unfold plaws_szCellS at h
  refine Wc.seq ?_
  refine Wc.region [] [] [0, 1] [] [] ⟨[(0, (.v (.sl (List.map GCell.c d6_)), [])), (1, (.v (.int .i64 b7_), []))], [], []⟩ _ (by kernel_rfl) .nil ?_
  refine Wc.seq ?_
  refine Wc.region [{}, {}, { v := some (.int .i64 (d6_.length : Int)) }] [] [0, 1] [] [] ⟨[(0, (.v (.sl (List.map GCell.c d6_)), [])), (1, (.v (.int .i64 (wr.i64 (b7_ - (d6_.length : Int)))), []))], [], []⟩ _ (by kernel_rfl) (.cons (len_obl GCell.c d6_) .nil) ?_
  refine Wc.seq ?_
  refine Wc.seq ?_
  refine Wc.region [] [] [0, 1, 11] [] [] ⟨[(0, (.v (.sl (List.map GCell.c d6_)), [])), (1, (.v (.int .i64 (wr.i64 (b7_ - (d6_.length : Int)))), [])), (11, (.v (.bool (decide ((wr.i64 (b7_ - (d6_.length : Int))) < 0))), []))], [], []⟩ _ (by kernel_rfl) .nil ?_
  rcases oif h with ⟨h5, h⟩ | ⟨h5, h⟩
  · refine Wc.condT h5 (by kernel_rfl) ?_
    refine Wc.seq ?_
    refine Wc.region [] [] [4] [] [] ⟨[(4, (.v (.int .i64 (-1)), []))], [], []⟩ _ (by kernel_rfl) .nil ?_
    refine Wc.ret ?_
    obtain rfl := Option.some.inj h
    exact ⟨.inl rfl, by kernel_rfl, by kernel_rfl⟩
  · refine Wc.condF h5 (by kernel_rfl) ?_
    refine Wc.fix (st' := ⟨[(0, (.v (.sl (List.map GCell.c d6_)), [])), (1, (.v (.int .i64 (wr.i64 (b7_ - (d6_.length : Int)))), []))], [], []⟩) [] [0, 1] [] [] (by kernel_rfl) ?_
    refine Wc.skip ?_
    refine Wc.seq ?_
    refine Wc.seq ?_
    refine Wc.region [] [] [0, 1, 5] [] [] ⟨[(0, (.v (.sl (List.map GCell.c d6_)), [])), (1, (.v (.int .i64 (wr.i64 (b7_ - (d6_.length : Int)))), [])), (5, (.v (.int .i64 0), []))], [], []⟩ _ (by kernel_rfl) .nil ?_
    obtain ⟨out1, h6, h⟩ := obind h
    refine Wc.lastJ (fun st => ∃ (b10_ : Int), out1 = .done b10_ ∧ st = ⟨[(1, (.v (.int .i64 b10_), []))], [], []⟩) ?_ ?_
    · refine Wc.block ?_
      refine Wc.loop (fun m st => ∃ (b8_ : Int) (b9_ : Int), st = ⟨[(0, (.v (.sl (List.map GCell.c d6_)), [])), (1, (.v (.int .i64 b8_), [])), (5, (.v (.int .i64 b9_), []))], [], []⟩ ∧ plaws_szCellS_L1 k d6_ m b8_ b9_ = some out1) ?_ k ⟨_, _, rfl, h6⟩
      rintro m st ⟨b8_, b9_, rfl, h6⟩
      cases m with
      | zero => exact (onone h6).elim
      | succ m =>
        refine Wc.seq ?_
        refine Wc.seq ?_
        refine Wc.region [{}, {}, { v := some (.int .i64 (d6_.length : Int)) }] [] [0, 1, 5, 15] [] [] ⟨[(0, (.v (.sl (List.map GCell.c d6_)), [])), (1, (.v (.int .i64 b8_), [])), (5, (.v (.int .i64 b9_), [])), (15, (.v (.bool (decide (b9_ < (d6_.length : Int)))), []))], [], []⟩ _ (by kernel_rfl) (.cons (len_obl GCell.c d6_) .nil) ?_
        rcases oif h6 with ⟨h7, h6⟩ | ⟨h7, h6⟩
        · refine Wc.condT h7 (by kernel_rfl) ?_
          refine Wc.fix (st' := ⟨[(0, (.v (.sl (List.map GCell.c d6_)), [])), (1, (.v (.int .i64 b8_), [])), (5, (.v (.int .i64 b9_), []))], [], []⟩) [] [0, 1, 5] [] [] (by kernel_rfl) ?_
          refine Wc.skip ?_
          refine Wc.seq ?_
          refine Wc.block ?_
          refine Wc.seq ?_
          obtain ⟨c11_, h8, h6⟩ := obind h6
          obtain ⟨b12_, h9, h6⟩ := obind h6
          refine Wc.region [{}, {}, { v := some (.vptr [.int .i64 c11_.gKind, .str c11_.gName, .int .i64 c11_.gNum, .int .i64 c11_.gTo, .sl (List.map cI.i64 c11_.gKids)]) }, {}, {}, { r := some (.v (.int .i64 b12_) []) }] [] [0, 1, 5] [] [] ⟨[(0, (.v (.sl (List.map GCell.c d6_)), [])), (1, (.v (.int .i64 b12_), [])), (5, (.v (.int .i64 b9_), []))], [], []⟩ _ (by kernel_rfl) (.cons (at_obl (c := GCell.c) (GCell.c_eq c11_) GCell.c_len h8) (.cons (len_ok 5 [.int .i64 c11_.gKind, .str c11_.gName, .int .i64 c11_.gNum, .int .i64 c11_.gTo, .sl (List.map cI.i64 c11_.gKids)]) (.cons (claws_szCell h9) .nil))) ?_
          refine Wc.seq ?_
          refine Wc.region [] [] [0, 1, 5, 25] [] [] ⟨[(0, (.v (.sl (List.map GCell.c d6_)), [])), (1, (.v (.int .i64 b12_), [])), (5, (.v (.int .i64 b9_), [])), (25, (.v (.bool (decide (b12_ < 0))), []))], [], []⟩ _ (by kernel_rfl) .nil ?_
          rcases oif h6 with ⟨h10, h6⟩ | ⟨h10, h6⟩
          · refine Wc.condT h10 (by kernel_rfl) ?_
            refine Wc.seq ?_
            refine Wc.region [] [] [4] [] [] ⟨[(4, (.v (.int .i64 (-1)), []))], [], []⟩ _ (by kernel_rfl) .nil ?_
            refine Wc.ret ?_
            obtain rfl := Option.some.inj h6
            obtain rfl := Option.some.inj h
            exact ⟨.inl rfl, by kernel_rfl, by kernel_rfl⟩
          · refine Wc.condF h10 (by kernel_rfl) ?_
            refine Wc.fix (st' := ⟨[(0, (.v (.sl (List.map GCell.c d6_)), [])), (1, (.v (.int .i64 b12_), [])), (5, (.v (.int .i64 b9_), []))], [], []⟩) [] [0, 1, 5] [] [] (by kernel_rfl) ?_
            refine Wc.skip ?_
            refine Wc.region [] [] [0, 1, 5] [] [] ⟨[(0, (.v (.sl (List.map GCell.c d6_)), [])), (1, (.v (.int .i64 b12_), [])), (5, (.v (.int .i64 (wr.i64 (b9_ + 1))), []))], [], []⟩ _ (by kernel_rfl) .nil ?_
            exact ⟨_, Nat.lt_succ_self _, _, _, rfl, h6⟩
        · refine Wc.condF h7 (by kernel_rfl) ?_
          refine Wc.fix (st' := ⟨[(1, (.v (.int .i64 b8_), []))], [], []⟩) [] [1] [] [] (by kernel_rfl) ?_
          refine Wc.exit ?_
          obtain rfl := Option.some.inj h6
          exact ⟨_, rfl, rfl⟩
    · rintro st ⟨b10_, rfl, rfl⟩
      refine Wc.seq ?_
      refine Wc.region [] [] [4] [] [] ⟨[(4, (.v (.int .i64 b10_), []))], [], []⟩ _ (by kernel_rfl) .nil ?_
      refine Wc.ret ?_
      obtain rfl := Option.some.inj h
      exact ⟨.inl rfl, by kernel_rfl, by kernel_rfl⟩

/-- laws.szHeap -/
def plaws_szHeap (k : Nat) (e13_ : GHeap) (b14_ : Int) : Option Int :=
  (plaws_szCellS k e13_.gCells b14_).bind fun b15_ =>
  if (decide (b15_ < 0)) = true then
    some (-1)
  else
    (plaws_szIntS k e13_.gTrail b15_).bind fun b16_ =>
    if (decide (b16_ < 0)) = true then
      some (-1)
    else
      some b16_
theorem claws_szHeap {k : Nat} {e13_ : GHeap} {b14_ : Int} {r : Int} (h : plaws_szHeap k e13_ b14_ = some r) : FnO Try.prog 36 [.v (.agg [.sl (List.map GCell.c e13_.gCells), .sl (List.map cI.i64 e13_.gTrail)]) [], .v (.int .i64 b14_) []] (.v (.int .i64 r) []) [] := by
  refine FnO.of Try.func36 (rfl : Try.f36.body = some _) (Nat.le_of_ble_eq_true (by kernel_rfl)) (Nat.le_of_ble_eq_true (by kernel_rfl)) ?_
  intro w0 X0 Fin pv0 pb
  unfold plaws_szHeap at h
  refine Wc.seq ?_
  refine Wc.region [] [] [1, 2] [2] [] ⟨[(1, (.v (.int .i64 b14_), [])), (2, (.ptr 2 0, []))], [(2, .cells [.sl (List.map GCell.c e13_.gCells), .sl (List.map cI.i64 e13_.gTrail)] [])], []⟩ _ (by kernel_rfl) .nil ?_
  refine Wc.seq ?_
  obtain ⟨b15_, h11, h⟩ := obind h
  refine Wc.region [{}, {}, {}, { r := some (.v (.int .i64 b15_) []) }] [] [1, 2] [2] [] ⟨[(1, (.v (.int .i64 b15_), [])), (2, (.ptr 2 0, []))], [(2, .cells [.sl (List.map GCell.c e13_.gCells), .sl (List.map cI.i64 e13_.gTrail)] [])], []⟩ _ (by kernel_rfl) (.cons (claws_szCellS h11) .nil) ?_
  refine Wc.seq ?_
  refine Wc.seq ?_
  refine Wc.region [] [] [1, 2, 10] [2] [] ⟨[(1, (.v (.int .i64 b15_), [])), (2, (.ptr 2 0, [])), (10, (.v (.bool (decide (b15_ < 0))), []))], [(2, .cells [.sl (List.map GCell.c e13_.gCells), .sl (List.map cI.i64 e13_.gTrail)] [])], []⟩ _ (by kernel_rfl) .nil ?_
  rcases oif h with ⟨h12, h⟩ | ⟨h12, h⟩
  · refine Wc.condT h12 (by kernel_rfl) ?_
    refine Wc.seq ?_
    refine Wc.region [] [] [4] [] [] ⟨[(4, (.v (.int .i64 (-1)), []))], [], []⟩ _ (by kernel_rfl) .nil ?_
    refine Wc.ret ?_
    obtain rfl := Option.some.inj h
    exact ⟨.inl rfl, by kernel_rfl, by kernel_rfl⟩
  · refine Wc.condF h12 (by kernel_rfl) ?_
    refine Wc.fix (st' := ⟨[(1, (.v (.int .i64 b15_), [])), (2, (.ptr 2 0, []))], [(2, .cells [.sl (List.map GCell.c e13_.gCells), .sl (List.map cI.i64 e13_.gTrail)] [])], []⟩) [] [1, 2] [2] [] (by kernel_rfl) ?_
    refine Wc.skip ?_
    refine Wc.seq ?_
    obtain ⟨b16_, h13, h⟩ := obind h
    refine Wc.region [{}, {}, {}, { r := some (.v (.int .i64 b16_) []) }] [] [1] [] [] ⟨[(1, (.v (.int .i64 b16_), []))], [], []⟩ _ (by kernel_rfl) (.cons (claws_szIntS h13) .nil) ?_
    refine Wc.seq ?_
    refine Wc.seq ?_
    refine Wc.region [] [] [1, 16] [] [] ⟨[(1, (.v (.int .i64 b16_), [])), (16, (.v (.bool (decide (b16_ < 0))), []))], [], []⟩ _ (by kernel_rfl) .nil ?_
    rcases oif h with ⟨h14, h⟩ | ⟨h14, h⟩
    · refine Wc.condT h14 (by kernel_rfl) ?_
      refine Wc.seq ?_
      refine Wc.region [] [] [4] [] [] ⟨[(4, (.v (.int .i64 (-1)), []))], [], []⟩ _ (by kernel_rfl) .nil ?_
      refine Wc.ret ?_
      obtain rfl := Option.some.inj h
      exact ⟨.inl rfl, by kernel_rfl, by kernel_rfl⟩
    · refine Wc.condF h14 (by kernel_rfl) ?_
      refine Wc.fix (st' := ⟨[(1, (.v (.int .i64 b16_), []))], [], []⟩) [] [1] [] [] (by kernel_rfl) ?_
      refine Wc.skip ?_
      refine Wc.seq ?_
      refine Wc.region [] [] [4] [] [] ⟨[(4, (.v (.int .i64 b16_), []))], [], []⟩ _ (by kernel_rfl) .nil ?_
      refine Wc.ret ?_
      obtain rfl := Option.some.inj h
      exact ⟨.inl rfl, by kernel_rfl, by kernel_rfl⟩

def plaws_toIntS_L1 (k : Nat) (a17_ : List Int) : Nat → (List Int) → Int → Option (Out (List Int) (List Int))
  | 0, _, _ => none
  | m + 1, a18_, b19_ =>
    if (decide (b19_ < (a17_.length : Int))) = true then
      (at' a17_ b19_).bind fun b21_ =>
      (at' a18_ b19_).bind fun b22_ =>
      plaws_toIntS_L1 k a17_ m (a18_.set ((b19_).toNat) b21_) (wr.i64 (b19_ + 1))
    else
      some (.done a18_)
/-- laws.toIntS -/
def plaws_toIntS (k : Nat) (a17_ : List Int) : Option (List Int) :=
  if 0 ≤ (a17_.length : Int) ∧ (a17_.length : Int) ≤ 1073741824 then
    (plaws_toIntS_L1 k a17_ k (List.replicate ((a17_.length : Int)).toNat 0) 0).bind fun out1 => match out1 with
    | .ret r => some r
    | .done a20_ =>
      some a20_
  else none
theorem claws_toIntS {k : Nat} {a17_ : List Int} {r : (List Int)} (h : plaws_toIntS k a17_ = some r) : FnO Try.prog 30 [.v (.sl (List.map cI.i64 a17_)) []] (.v (.sl (List.map cI.i64 r)) []) [] := by
  refine FnO.of Try.func30 (rfl : Try.f30.body = some _) (Nat.le_of_ble_eq_true (by kernel_rfl)) (Nat.le_of_ble_eq_true (by kernel_rfl)) ?_
  intro w0 X0 Fin pv0 pb
  unfold plaws_toIntS at h
  refine Wc.seq ?_
  refine Wc.region [] [] [0] [] [] ⟨[(0, (.v (.sl (List.map cI.i64 a17_)), []))], [], []⟩ _ (by kernel_rfl) .nil ?_
  refine Wc.seq ?_
  obtain ⟨h15, h⟩ := oguard h
  refine Wc.region [{}, { v := some (.int .i64 (a17_.length : Int)) }, { c := some (List.map cI.i64 (List.replicate ((a17_.length : Int)).toNat 0)) }, { tk := [7] }] [] [0, 3] [] [] ⟨[(0, (.v (.sl (List.map cI.i64 a17_)), [])), (3, (.v (.slx), [(0, .ex 3 true (List.map cI.i64 (List.replicate ((a17_.length : Int)).toNat 0)))]))], [], []⟩ _ (by kernel_rfl) (.cons (len_obl cI.i64 a17_) (.cons (rep_re (c := cI.i64) (z := 0) rfl ((a17_.length : Int)).toNat) (.cons (ms_obl h15) .nil))) ?_
  refine Wc.seq ?_
  refine Wc.seq ?_
  refine Wc.region [] [] [0, 3, 4] [] [] ⟨[(0, (.v (.sl (List.map cI.i64 a17_)), [])), (3, (.v (.slx), [(0, .ex 3 true (List.map cI.i64 (List.replicate ((a17_.length : Int)).toNat 0)))])), (4, (.v (.int .i64 0), []))], [], []⟩ _ (by kernel_rfl) .nil ?_
  obtain ⟨out1, h16, h⟩ := obind h
  refine Wc.lastJ (fun st => ∃ (a20_ : List Int), out1 = .done a20_ ∧ st = ⟨[(3, (.v (.slx), [(0, .ex 3 true (List.map cI.i64 a20_))]))], [], []⟩) ?_ ?_
  · refine Wc.block ?_
    refine Wc.loop (fun m st => ∃ (a18_ : List Int) (b19_ : Int), st = ⟨[(0, (.v (.sl (List.map cI.i64 a17_)), [])), (3, (.v (.slx), [(0, .ex 3 true (List.map cI.i64 a18_))])), (4, (.v (.int .i64 b19_), []))], [], []⟩ ∧ plaws_toIntS_L1 k a17_ m a18_ b19_ = some out1) ?_ k ⟨_, _, rfl, h16⟩
    rintro m st ⟨a18_, b19_, rfl, h16⟩
    cases m with
    | zero => exact (onone h16).elim
    | succ m =>
      refine Wc.seq ?_
      refine Wc.seq ?_
      refine Wc.region [{}, {}, { v := some (.int .i64 (a17_.length : Int)) }] [] [0, 3, 4, 11] [] [] ⟨[(0, (.v (.sl (List.map cI.i64 a17_)), [])), (3, (.v (.slx), [(0, .ex 3 true (List.map cI.i64 a18_))])), (4, (.v (.int .i64 b19_), [])), (11, (.v (.bool (decide (b19_ < (a17_.length : Int)))), []))], [], []⟩ _ (by kernel_rfl) (.cons (len_obl cI.i64 a17_) .nil) ?_
      rcases oif h16 with ⟨h17, h16⟩ | ⟨h17, h16⟩
      · refine Wc.condT h17 (by kernel_rfl) ?_
        refine Wc.fix (st' := ⟨[(0, (.v (.sl (List.map cI.i64 a17_)), [])), (3, (.v (.slx), [(0, .ex 3 true (List.map cI.i64 a18_))])), (4, (.v (.int .i64 b19_), []))], [], []⟩) [] [0, 3, 4] [] [] (by kernel_rfl) ?_
        refine Wc.skip ?_
        refine Wc.seq ?_
        refine Wc.block ?_
        obtain ⟨b21_, h18, h16⟩ := obind h16
        obtain ⟨b22_, h19, h16⟩ := obind h16
        refine Wc.region [{}, {}, {}, {}, { v := some (.vptr [.int .i64 b21_]) }, {}, {}, { c := some (List.map cI.i64 (a18_.set ((b19_).toNat) b21_)) }] [] [0, 3, 4] [] [] ⟨[(0, (.v (.sl (List.map cI.i64 a17_)), [])), (3, (.v (.slx), [(0, .ex 3 true (List.map cI.i64 (a18_.set ((b19_).toNat) b21_)))])), (4, (.v (.int .i64 b19_), []))], [], []⟩ _ (by kernel_rfl) (.cons (at_obl (c := cI.i64) rfl cI.i64_len h18) (.cons (len_ok 1 [.int .i64 b21_]) (.cons (ix_obl (c := cI.i64) cI.i64_len h19) (.cons (mod_obl (off := 0) (new := [.int .i64 b21_]) (c := cI.i64) rfl rfl (at'_spec h19).2 rfl) (.cons (st_obl (sz := 1) (off := 0) (s := 1) (c := cI.i64) rfl (at'_spec h19).2 rfl (Nat.le_of_ble_eq_true rfl)) .nil))))) ?_
        refine Wc.region [] [] [0, 3, 4] [] [] ⟨[(0, (.v (.sl (List.map cI.i64 a17_)), [])), (3, (.v (.slx), [(0, .ex 3 true (List.map cI.i64 (a18_.set ((b19_).toNat) b21_)))])), (4, (.v (.int .i64 (wr.i64 (b19_ + 1))), []))], [], []⟩ _ (by kernel_rfl) .nil ?_
        exact ⟨_, Nat.lt_succ_self _, _, _, rfl, h16⟩
      · refine Wc.condF h17 (by kernel_rfl) ?_
        refine Wc.fix (st' := ⟨[(3, (.v (.slx), [(0, .ex 3 true (List.map cI.i64 a18_))]))], [], []⟩) [] [3] [] [] (by kernel_rfl) ?_
        refine Wc.exit ?_
        obtain rfl := Option.some.inj h16
        exact ⟨_, rfl, rfl⟩
  · rintro st ⟨a20_, rfl, rfl⟩
    refine Wc.seq ?_
    refine Wc.region [{ tk := [3] }, { tk := [21] }] [] [2] [] [] ⟨[(2, (.v (.slx), [(0, .ex 3 true (List.map cI.i64 a20_))]))], [], []⟩ _ (by kernel_rfl) .nil ?_
    refine Wc.fix (st' := ⟨[(2, (.v (.sl (List.map cI.i64 a20_)), []))], [], []⟩) [.sh (.t 2 0)] [2] [] [] (by kernel_rfl) ?_
    refine Wc.ret ?_
    obtain rfl := Option.some.inj h
    exact ⟨.inl rfl, by kernel_rfl, by kernel_rfl⟩

/-- laws.toCell -/
def plaws_toCell (k : Nat) (c23_ : GCell) : Option GCell :=
  (plaws_toIntS k c23_.gKids).bind fun f24_ =>
  some (GCell.mk c23_.gKind c23_.gName c23_.gNum c23_.gTo f24_)
theorem claws_toCell {k : Nat} {c23_ : GCell} {r : GCell} (h : plaws_toCell k c23_ = some r) : FnO Try.prog 119 [.v (.agg [.int .i64 c23_.gKind, .str c23_.gName, .int .i64 c23_.gNum, .int .i64 c23_.gTo, .sl (List.map cI.i64 c23_.gKids)]) []] (.v (.agg [.int .i64 r.gKind, .str r.gName, .int .i64 r.gNum, .int .i64 r.gTo, .sl (List.map cI.i64 r.gKids)]) []) [] := by
  refine FnO.of Try.func119 (rfl : Try.f119.body = some _) (Nat.le_of_ble_eq_true (by kernel_rfl)) (Nat.le_of_ble_eq_true (by kernel_rfl)) ?_
  intro w0 X0 Fin pv0 pb
  unfold plaws_toCell at h
  refine Wc.seq ?_
  refine Wc.region [] [] [1, 2] [1, 2] [] ⟨[(1, (.ptr 1 0, [])), (2, (.ptr 2 0, []))], [(1, .cells [.int .i64 c23_.gKind, .str c23_.gName, .int .i64 c23_.gNum, .int .i64 c23_.gTo, .sl (List.map cI.i64 c23_.gKids)] []), (2, .cells [.int .i64 0, .str (bs []), .int .i64 0, .int .i64 0, .sl (List.map cI.i64 [])] [(4, .app 3)])], []⟩ _ (by kernel_rfl) .nil ?_
  refine Wc.seq ?_
  refine Wc.region [] [] [1, 2, 3] [1, 2, 3] [] ⟨[(1, (.ptr 1 0, [])), (2, (.ptr 2 0, [])), (3, (.ptr 3 0, []))], [(1, .cells [.int .i64 c23_.gKind, .str c23_.gName, .int .i64 c23_.gNum, .int .i64 c23_.gTo, .sl (List.map cI.i64 c23_.gKids)] []), (2, .cells [.int .i64 0, .str (bs []), .int .i64 0, .int .i64 0, .sl (List.map cI.i64 [])] [(4, .app 3)]), (3, .cells [.int .i64 0, .str (bs []), .int .i64 0, .int .i64 0, .sl (List.map cI.i64 [])] [(4, .app 3)])], []⟩ _ (by kernel_rfl) .nil ?_
  refine Wc.seq ?_
  refine Wc.region [] [] [1, 2, 3] [1, 2, 3] [] ⟨[(1, (.ptr 1 0, [])), (2, (.ptr 2 0, [])), (3, (.ptr 3 0, []))], [(1, .cells [.int .i64 c23_.gKind, .str c23_.gName, .int .i64 c23_.gNum, .int .i64 c23_.gTo, .sl (List.map cI.i64 c23_.gKids)] []), (2, .cells [.int .i64 0, .str (bs []), .int .i64 0, .int .i64 0, .sl (List.map cI.i64 [])] [(4, .app 3)]), (3, .cells [.int .i64 c23_.gKind, .str (bs []), .int .i64 0, .int .i64 0, .sl (List.map cI.i64 [])] [(4, .app 3)])], []⟩ _ (by kernel_rfl) .nil ?_
  refine Wc.seq ?_
  refine Wc.region [] [] [1, 2, 3] [1, 2, 3] [] ⟨[(1, (.ptr 1 0, [])), (2, (.ptr 2 0, [])), (3, (.ptr 3 0, []))], [(1, .cells [.int .i64 c23_.gKind, .str c23_.gName, .int .i64 c23_.gNum, .int .i64 c23_.gTo, .sl (List.map cI.i64 c23_.gKids)] []), (2, .cells [.int .i64 0, .str (bs []), .int .i64 0, .int .i64 0, .sl (List.map cI.i64 [])] [(4, .app 3)]), (3, .cells [.int .i64 c23_.gKind, .str c23_.gName, .int .i64 0, .int .i64 0, .sl (List.map cI.i64 [])] [(4, .app 3)])], []⟩ _ (by kernel_rfl) .nil ?_
  refine Wc.seq ?_
  refine Wc.region [] [] [1, 2, 3] [1, 2, 3] [] ⟨[(1, (.ptr 1 0, [])), (2, (.ptr 2 0, [])), (3, (.ptr 3 0, []))], [(1, .cells [.int .i64 c23_.gKind, .str c23_.gName, .int .i64 c23_.gNum, .int .i64 c23_.gTo, .sl (List.map cI.i64 c23_.gKids)] []), (2, .cells [.int .i64 0, .str (bs []), .int .i64 0, .int .i64 0, .sl (List.map cI.i64 [])] [(4, .app 3)]), (3, .cells [.int .i64 c23_.gKind, .str c23_.gName, .int .i64 c23_.gNum, .int .i64 0, .sl (List.map cI.i64 [])] [(4, .app 3)])], []⟩ _ (by kernel_rfl) .nil ?_
  refine Wc.seq ?_
  refine Wc.region [] [] [1, 2, 3] [1, 2, 3] [] ⟨[(1, (.ptr 1 0, [])), (2, (.ptr 2 0, [])), (3, (.ptr 3 0, []))], [(1, .cells [.int .i64 c23_.gKind, .str c23_.gName, .int .i64 c23_.gNum, .int .i64 c23_.gTo, .sl (List.map cI.i64 c23_.gKids)] []), (2, .cells [.int .i64 0, .str (bs []), .int .i64 0, .int .i64 0, .sl (List.map cI.i64 [])] [(4, .app 3)]), (3, .cells [.int .i64 c23_.gKind, .str c23_.gName, .int .i64 c23_.gNum, .int .i64 c23_.gTo, .sl (List.map cI.i64 [])] [(4, .app 3)])], []⟩ _ (by kernel_rfl) .nil ?_
  refine Wc.seq ?_
  obtain ⟨f24_, h20, h⟩ := obind h
  refine Wc.region [{}, {}, { r := some (.v (.sl (List.map cI.i64 f24_)) []) }] [] [2, 3] [2, 3] [] ⟨[(2, (.ptr 2 0, [])), (3, (.ptr 3 0, []))], [(2, .cells [.int .i64 0, .str (bs []), .int .i64 0, .int .i64 0, .sl (List.map cI.i64 [])] [(4, .app 3)]), (3, .cells [.int .i64 c23_.gKind, .str c23_.gName, .int .i64 c23_.gNum, .int .i64 c23_.gTo, .sl (List.map cI.i64 f24_)] [])], []⟩ _ (by kernel_rfl) (.cons (claws_toIntS h20) .nil) ?_
  refine Wc.seq ?_
  refine Wc.region [] [] [2] [2] [] ⟨[(2, (.ptr 2 0, []))], [(2, .cells [.int .i64 c23_.gKind, .str c23_.gName, .int .i64 c23_.gNum, .int .i64 c23_.gTo, .sl (List.map cI.i64 f24_)] [])], []⟩ _ (by kernel_rfl) .nil ?_
  refine Wc.ret ?_
  obtain rfl := Option.some.inj h
  exact ⟨.inl rfl, by kernel_rfl, by kernel_rfl⟩

def plaws_toCellS_L1 (k : Nat) (d25_ : List GCell) : Nat → (List GCell) → Int → Option (Out (List GCell) (List GCell))
  | 0, _, _ => none
  | m + 1, d26_, b27_ =>
    if (decide (b27_ < (d25_.length : Int))) = true then
      (at' d25_ b27_).bind fun c29_ =>
      (plaws_toCell k c29_).bind fun c30_ =>
      (at' d26_ b27_).bind fun c31_ =>
      plaws_toCellS_L1 k d25_ m (d26_.set ((b27_).toNat) c30_) (wr.i64 (b27_ + 1))
    else
      some (.done d26_)
/-- laws.toCellS -/
def plaws_toCellS (k : Nat) (d25_ : List GCell) : Option (List GCell) :=
  if 0 ≤ (d25_.length : Int) ∧ (d25_.length : Int) ≤ 1073741824 then
    (plaws_toCellS_L1 k d25_ k (List.replicate ((d25_.length : Int)).toNat (GCell.mk 0 (bs []) 0 0 [])) 0).bind fun out1 => match out1 with
    | .ret r => some r
    | .done d28_ =>
      some d28_
  else none
theorem claws_toCellS {k : Nat} {d25_ : List GCell} {r : (List GCell)} (h : plaws_toCellS k d25_ = some r) : FnO Try.prog 78 [.v (.sl (List.map GCell.c d25_)) []] (.v (.sl (List.map GCell.c r)) []) [] := by
  refine FnO.of Try.func78 (rfl : Try.f78.body = some _) (Nat.le_of_ble_eq_true (by kernel_rfl)) (Nat.le_of_ble_eq_true (by kernel_rfl)) ?_
  intro w0 X0 Fin pv0 pb
  unfold plaws_toCellS at h
  refine Wc.seq ?_
  refine Wc.region [] [] [0] [] [] ⟨[(0, (.v (.sl (List.map GCell.c d25_)), []))], [], []⟩ _ (by kernel_rfl) .nil ?_
  refine Wc.seq ?_
  obtain ⟨h21, h⟩ := oguard h
  refine Wc.region [{}, { v := some (.int .i64 (d25_.length : Int)) }, { c := some (List.map GCell.c (List.replicate ((d25_.length : Int)).toNat (GCell.mk 0 (bs []) 0 0 []))) }, { tk := [7], fx := [.ag (.t 7 0)] }] [] [0, 3] [] [] ⟨[(0, (.v (.sl (List.map GCell.c d25_)), [])), (3, (.v (.slx), [(0, .ex 110 false (List.map GCell.c (List.replicate ((d25_.length : Int)).toNat (GCell.mk 0 (bs []) 0 0 []))))]))], [], []⟩ _ (by kernel_rfl) (.cons (len_obl GCell.c d25_) (.cons (rep_re (c := GCell.c) (z := (GCell.mk 0 (bs []) 0 0 [])) (GCell.c_eq (GCell.mk 0 (bs []) 0 0 [])) ((d25_.length : Int)).toNat) (.cons (ms_obl h21) .nil))) ?_
  refine Wc.seq ?_
  refine Wc.seq ?_
  refine Wc.region [] [] [0, 3, 4] [] [] ⟨[(0, (.v (.sl (List.map GCell.c d25_)), [])), (3, (.v (.slx), [(0, .ex 110 false (List.map GCell.c (List.replicate ((d25_.length : Int)).toNat (GCell.mk 0 (bs []) 0 0 []))))])), (4, (.v (.int .i64 0), []))], [], []⟩ _ (by kernel_rfl) .nil ?_
  obtain ⟨out1, h22, h⟩ := obind h
  refine Wc.lastJ (fun st => ∃ (d28_ : List GCell), out1 = .done d28_ ∧ st = ⟨[(3, (.v (.slx), [(0, .ex 110 false (List.map GCell.c d28_))]))], [], []⟩) ?_ ?_
  · refine Wc.block ?_
    refine Wc.loop (fun m st => ∃ (d26_ : List GCell) (b27_ : Int), st = ⟨[(0, (.v (.sl (List.map GCell.c d25_)), [])), (3, (.v (.slx), [(0, .ex 110 false (List.map GCell.c d26_))])), (4, (.v (.int .i64 b27_), []))], [], []⟩ ∧ plaws_toCellS_L1 k d25_ m d26_ b27_ = some out1) ?_ k ⟨_, _, rfl, h22⟩
    rintro m st ⟨d26_, b27_, rfl, h22⟩
    cases m with
    | zero => exact (onone h22).elim
    | succ m =>
      refine Wc.seq ?_
      refine Wc.seq ?_
      refine Wc.region [{}, {}, { v := some (.int .i64 (d25_.length : Int)) }] [] [0, 3, 4, 11] [] [] ⟨[(0, (.v (.sl (List.map GCell.c d25_)), [])), (3, (.v (.slx), [(0, .ex 110 false (List.map GCell.c d26_))])), (4, (.v (.int .i64 b27_), [])), (11, (.v (.bool (decide (b27_ < (d25_.length : Int)))), []))], [], []⟩ _ (by kernel_rfl) (.cons (len_obl GCell.c d25_) .nil) ?_
      rcases oif h22 with ⟨h23, h22⟩ | ⟨h23, h22⟩
      · refine Wc.condT h23 (by kernel_rfl) ?_
        refine Wc.fix (st' := ⟨[(0, (.v (.sl (List.map GCell.c d25_)), [])), (3, (.v (.slx), [(0, .ex 110 false (List.map GCell.c d26_))])), (4, (.v (.int .i64 b27_), []))], [], []⟩) [] [0, 3, 4] [] [] (by kernel_rfl) ?_
        refine Wc.skip ?_
        refine Wc.seq ?_
        refine Wc.block ?_
        obtain ⟨c29_, h24, h22⟩ := obind h22
        obtain ⟨c30_, h25, h22⟩ := obind h22
        obtain ⟨c31_, h26, h22⟩ := obind h22
        refine Wc.region [{}, {}, {}, {}, { v := some (.vptr [.int .i64 c29_.gKind, .str c29_.gName, .int .i64 c29_.gNum, .int .i64 c29_.gTo, .sl (List.map cI.i64 c29_.gKids)]) }, {}, { r := some (.v (.agg [.int .i64 c30_.gKind, .str c30_.gName, .int .i64 c30_.gNum, .int .i64 c30_.gTo, .sl (List.map cI.i64 c30_.gKids)]) []) }, {}, { c := some (List.map GCell.c (d26_.set ((b27_).toNat) c30_)) }] [] [0, 3, 4] [] [] ⟨[(0, (.v (.sl (List.map GCell.c d25_)), [])), (3, (.v (.slx), [(0, .ex 110 false (List.map GCell.c (d26_.set ((b27_).toNat) c30_)))])), (4, (.v (.int .i64 b27_), []))], [], []⟩ _ (by kernel_rfl) (.cons (at_obl (c := GCell.c) (GCell.c_eq c29_) GCell.c_len h24) (.cons (len_ok 5 [.int .i64 c29_.gKind, .str c29_.gName, .int .i64 c29_.gNum, .int .i64 c29_.gTo, .sl (List.map cI.i64 c29_.gKids)]) (.cons (claws_toCell h25) (.cons (ix_obl (c := GCell.c) GCell.c_len h26) (.cons (mod_obl (off := 0) (new := [.int .i64 c30_.gKind, .str c30_.gName, .int .i64 c30_.gNum, .int .i64 c30_.gTo, .sl (List.map cI.i64 c30_.gKids)]) (c := GCell.c) (GCell.c_eq c31_) (GCell.c_eq c30_) (at'_spec h26).2 rfl) (.cons (st_obl (sz := 5) (off := 0) (s := 5) (c := GCell.c) (GCell.c_eq c31_) (at'_spec h26).2 rfl (Nat.le_of_ble_eq_true rfl)) .nil)))))) ?_
        refine Wc.region [] [] [0, 3, 4] [] [] ⟨[(0, (.v (.sl (List.map GCell.c d25_)), [])), (3, (.v (.slx), [(0, .ex 110 false (List.map GCell.c (d26_.set ((b27_).toNat) c30_)))])), (4, (.v (.int .i64 (wr.i64 (b27_ + 1))), []))], [], []⟩ _ (by kernel_rfl) .nil ?_
        exact ⟨_, Nat.lt_succ_self _, _, _, rfl, h22⟩
      · refine Wc.condF h23 (by kernel_rfl) ?_
        refine Wc.fix (st' := ⟨[(3, (.v (.slx), [(0, .ex 110 false (List.map GCell.c d26_))]))], [], []⟩) [] [3] [] [] (by kernel_rfl) ?_
        refine Wc.exit ?_
        obtain rfl := Option.some.inj h22
        exact ⟨_, rfl, rfl⟩
  · rintro st ⟨d28_, rfl, rfl⟩
    refine Wc.seq ?_
    refine Wc.region [{ tk := [3] }, { tk := [22] }] [] [2] [] [] ⟨[(2, (.v (.slx), [(0, .ex 110 false (List.map GCell.c d28_))]))], [], []⟩ _ (by kernel_rfl) .nil ?_
    refine Wc.fix (st' := ⟨[(2, (.v (.sl (List.map GCell.c d28_)), []))], [], []⟩) [.sh (.t 2 0)] [2] [] [] (by kernel_rfl) ?_
    refine Wc.ret ?_
    obtain rfl := Option.some.inj h
    exact ⟨.inl rfl, by kernel_rfl, by kernel_rfl⟩

/-- laws.toHeap -/
def plaws_toHeap (k : Nat) (e32_ : GHeap) : Option GHeap :=
  (plaws_toCellS k e32_.gCells).bind fun g33_ =>
  (plaws_toIntS k e32_.gTrail).bind fun f34_ =>
  some (GHeap.mk g33_ f34_)
theorem claws_toHeap {k : Nat} {e32_ : GHeap} {r : GHeap} (h : plaws_toHeap k e32_ = some r) : FnO Try.prog 38 [.v (.agg [.sl (List.map GCell.c e32_.gCells), .sl (List.map cI.i64 e32_.gTrail)]) []] (.v (.agg [.sl (List.map GCell.c r.gCells), .sl (List.map cI.i64 r.gTrail)]) []) [] := by
  refine FnO.of Try.func38 (rfl : Try.f38.body = some _) (Nat.le_of_ble_eq_true (by kernel_rfl)) (Nat.le_of_ble_eq_true (by kernel_rfl)) ?_
  intro w0 X0 Fin pv0 pb
  unfold plaws_toHeap at h
  refine Wc.seq ?_
  refine Wc.region [] [] [1, 2] [1, 2] [] ⟨[(1, (.ptr 1 0, [])), (2, (.ptr 2 0, []))], [(1, .cells [.sl (List.map GCell.c e32_.gCells), .sl (List.map cI.i64 e32_.gTrail)] []), (2, .cells [.sl (List.map GCell.c []), .sl (List.map cI.i64 [])] [(0, .app 110), (1, .app 3)])], []⟩ _ (by kernel_rfl) .nil ?_
  refine Wc.seq ?_
  refine Wc.region [] [] [1, 2, 3] [1, 2, 3] [] ⟨[(1, (.ptr 1 0, [])), (2, (.ptr 2 0, [])), (3, (.ptr 3 0, []))], [(1, .cells [.sl (List.map GCell.c e32_.gCells), .sl (List.map cI.i64 e32_.gTrail)] []), (2, .cells [.sl (List.map GCell.c []), .sl (List.map cI.i64 [])] [(0, .app 110), (1, .app 3)]), (3, .cells [.sl (List.map GCell.c []), .sl (List.map cI.i64 [])] [(0, .app 110), (1, .app 3)])], []⟩ _ (by kernel_rfl) .nil ?_
  refine Wc.seq ?_
  obtain ⟨g33_, h27, h⟩ := obind h
  refine Wc.region [{}, {}, { r := some (.v (.sl (List.map GCell.c g33_)) []) }] [] [1, 2, 3] [1, 2, 3] [] ⟨[(1, (.ptr 1 0, [])), (2, (.ptr 2 0, [])), (3, (.ptr 3 0, []))], [(1, .cells [.sl (List.map GCell.c e32_.gCells), .sl (List.map cI.i64 e32_.gTrail)] []), (2, .cells [.sl (List.map GCell.c []), .sl (List.map cI.i64 [])] [(0, .app 110), (1, .app 3)]), (3, .cells [.sl (List.map GCell.c g33_), .sl (List.map cI.i64 [])] [(1, .app 3)])], []⟩ _ (by kernel_rfl) (.cons (claws_toCellS h27) .nil) ?_
  refine Wc.seq ?_
  obtain ⟨f34_, h28, h⟩ := obind h
  refine Wc.region [{}, {}, { r := some (.v (.sl (List.map cI.i64 f34_)) []) }] [] [2, 3] [2, 3] [] ⟨[(2, (.ptr 2 0, [])), (3, (.ptr 3 0, []))], [(2, .cells [.sl (List.map GCell.c []), .sl (List.map cI.i64 [])] [(0, .app 110), (1, .app 3)]), (3, .cells [.sl (List.map GCell.c g33_), .sl (List.map cI.i64 f34_)] [])], []⟩ _ (by kernel_rfl) (.cons (claws_toIntS h28) .nil) ?_
  refine Wc.seq ?_
  refine Wc.region [] [] [2] [2] [] ⟨[(2, (.ptr 2 0, []))], [(2, .cells [.sl (List.map GCell.c g33_), .sl (List.map cI.i64 f34_)] [])], []⟩ _ (by kernel_rfl) .nil ?_
  refine Wc.ret ?_
  obtain rfl := Option.some.inj h
  exact ⟨.inl rfl, by kernel_rfl, by kernel_rfl⟩

def plaws_eqIntS_L1 (k : Nat) (a35_ : List Int) (a36_ : List Int) : Nat → Int → Option (Out Bool Unit)
  | 0, _ => none
  | m + 1, b37_ =>
    if (decide (b37_ < (a35_.length : Int))) = true then
      (at' a35_ b37_).bind fun b38_ =>
      (at' a36_ b37_).bind fun b39_ =>
      if (b38_ != b39_) = true then
        some (.ret false)
      else
        plaws_eqIntS_L1 k a35_ a36_ m (wr.i64 (b37_ + 1))
    else
      some (.done ())
/-- laws.eqIntS -/
def plaws_eqIntS (k : Nat) (a35_ : List Int) (a36_ : List Int) : Option Bool :=
  if ((a35_.length : Int) != (a36_.length : Int)) = true then
    some false
  else
    (plaws_eqIntS_L1 k a35_ a36_ k 0).bind fun out1 => match out1 with
    | .ret r => some r
    | .done () =>
      some true
theorem claws_eqIntS {k : Nat} {a35_ : List Int} {a36_ : List Int} {r : Bool} (h : plaws_eqIntS k a35_ a36_ = some r) : FnO Try.prog 32 [.v (.sl (List.map cI.i64 a35_)) [], .v (.sl (List.map cI.i64 a36_)) []] (.v (.bool r) []) [] := by
  refine FnO.of Try.func32 (rfl : Try.f32.body = some _) (Nat.le_of_ble_eq_true (by kernel_rfl)) (Nat.le_of_ble_eq_true (by kernel_rfl)) ?_
  intro w0 X0 Fin pv0 pb
  unfold plaws_eqIntS at h
  refine Wc.seq ?_
  refine Wc.region [] [] [0, 1] [] [] ⟨[(0, (.v (.sl (List.map cI.i64 a35_)), [])), (1, (.v (.sl (List.map cI.i64 a36_)), []))], [], []⟩ _ (by kernel_rfl) .nil ?_
  refine Wc.seq ?_
  refine Wc.seq ?_
  refine Wc.region [{}, { v := some (.int .i64 (a35_.length : Int)) }, {}, { v := some (.int .i64 (a36_.length : Int)) }] [] [0, 1, 10] [] [] ⟨[(0, (.v (.sl (List.map cI.i64 a35_)), [])), (1, (.v (.sl (List.map cI.i64 a36_)), [])), (10, (.v (.bool ((a35_.length : Int) != (a36_.length : Int))), []))], [], []⟩ _ (by kernel_rfl) (.cons (len_obl cI.i64 a35_) (.cons (len_obl cI.i64 a36_) .nil)) ?_
  rcases oif h with ⟨h29, h⟩ | ⟨h29, h⟩
  · refine Wc.condT h29 (by kernel_rfl) ?_
    refine Wc.seq ?_
    refine Wc.region [] [] [4] [] [] ⟨[(4, (.v (.bool false), []))], [], []⟩ _ (by kernel_rfl) .nil ?_
    refine Wc.ret ?_
    obtain rfl := Option.some.inj h
    exact ⟨.inl rfl, by kernel_rfl, by kernel_rfl⟩
  · refine Wc.condF h29 (by kernel_rfl) ?_
    refine Wc.fix (st' := ⟨[(0, (.v (.sl (List.map cI.i64 a35_)), [])), (1, (.v (.sl (List.map cI.i64 a36_)), []))], [], []⟩) [] [0, 1] [] [] (by kernel_rfl) ?_
    refine Wc.skip ?_
    refine Wc.seq ?_
    refine Wc.seq ?_
    refine Wc.region [] [] [0, 1, 5] [] [] ⟨[(0, (.v (.sl (List.map cI.i64 a35_)), [])), (1, (.v (.sl (List.map cI.i64 a36_)), [])), (5, (.v (.int .i64 0), []))], [], []⟩ _ (by kernel_rfl) .nil ?_
    obtain ⟨out1, h30, h⟩ := obind h
    refine Wc.lastJ (fun st => out1 = .done () ∧ st = ⟨[], [], []⟩) ?_ ?_
    · refine Wc.block ?_
      refine Wc.loop (fun m st => ∃ (b37_ : Int), st = ⟨[(0, (.v (.sl (List.map cI.i64 a35_)), [])), (1, (.v (.sl (List.map cI.i64 a36_)), [])), (5, (.v (.int .i64 b37_), []))], [], []⟩ ∧ plaws_eqIntS_L1 k a35_ a36_ m b37_ = some out1) ?_ k ⟨_, rfl, h30⟩
      rintro m st ⟨b37_, rfl, h30⟩
      cases m with
      | zero => exact (onone h30).elim
      | succ m =>
        refine Wc.seq ?_
        refine Wc.seq ?_
        refine Wc.region [{}, {}, { v := some (.int .i64 (a35_.length : Int)) }] [] [0, 1, 5, 14] [] [] ⟨[(0, (.v (.sl (List.map cI.i64 a35_)), [])), (1, (.v (.sl (List.map cI.i64 a36_)), [])), (5, (.v (.int .i64 b37_), [])), (14, (.v (.bool (decide (b37_ < (a35_.length : Int)))), []))], [], []⟩ _ (by kernel_rfl) (.cons (len_obl cI.i64 a35_) .nil) ?_
        rcases oif h30 with ⟨h31, h30⟩ | ⟨h31, h30⟩
        · refine Wc.condT h31 (by kernel_rfl) ?_
          refine Wc.fix (st' := ⟨[(0, (.v (.sl (List.map cI.i64 a35_)), [])), (1, (.v (.sl (List.map cI.i64 a36_)), [])), (5, (.v (.int .i64 b37_), []))], [], []⟩) [] [0, 1, 5] [] [] (by kernel_rfl) ?_
          refine Wc.skip ?_
          refine Wc.seq ?_
          refine Wc.block ?_
          refine Wc.seq ?_
          obtain ⟨b38_, h32, h30⟩ := obind h30
          obtain ⟨b39_, h33, h30⟩ := obind h30
          refine Wc.draw hmix [{}, {}, { v := some (.vptr [.int .i64 b38_]) }, {}, {}, {}, { v := some (.vptr [.int .i64 b39_]) }] [] [0, 1, 5, 25] [] [] ⟨[(0, (.v (.sl (List.map cI.i64 a35_)), [])), (1, (.v (.sl (List.map cI.i64 a36_)), [])), (5, (.v (.int .i64 b37_), [])), (25, (.v (.bool (b38_ != b39_)), []))], [], []⟩ _ (by kernel_rfl) (fun X => by kernel_rfl) (.cons (at_obl (c := cI.i64) rfl cI.i64_len h32) (.cons (len_ok 1 [.int .i64 b38_]) (.cons (at_obl (c := cI.i64) rfl cI.i64_len h33) (.cons (len_ok 1 [.int .i64 b39_]) .nil)))) ?_
          rcases oif h30 with ⟨h34, h30⟩ | ⟨h34, h30⟩
          · refine Wc.condT h34 (by kernel_rfl) ?_
            refine Wc.seq ?_
            refine Wc.region [] [] [4] [] [] ⟨[(4, (.v (.bool false), []))], [], []⟩ _ (by kernel_rfl) .nil ?_
            refine Wc.ret ?_
            obtain rfl := Option.some.inj h30
            obtain rfl := Option.some.inj h
            exact ⟨.inl rfl, by kernel_rfl, by kernel_rfl⟩
          · refine Wc.condF h34 (by kernel_rfl) ?_
            refine Wc.fix (st' := ⟨[(0, (.v (.sl (List.map cI.i64 a35_)), [])), (1, (.v (.sl (List.map cI.i64 a36_)), [])), (5, (.v (.int .i64 b37_), []))], [], []⟩) [] [0, 1, 5] [] [] (by kernel_rfl) ?_
            refine Wc.skip ?_
            refine Wc.region [] [] [0, 1, 5] [] [] ⟨[(0, (.v (.sl (List.map cI.i64 a35_)), [])), (1, (.v (.sl (List.map cI.i64 a36_)), [])), (5, (.v (.int .i64 (wr.i64 (b37_ + 1))), []))], [], []⟩ _ (by kernel_rfl) .nil ?_
            exact ⟨_, Nat.lt_succ_self _, _, rfl, h30⟩
        · refine Wc.condF h31 (by kernel_rfl) ?_
          refine Wc.fix (st' := ⟨[], [], []⟩) [] [] [] [] (by kernel_rfl) ?_
          refine Wc.exit ?_
          obtain rfl := Option.some.inj h30
          exact ⟨rfl, rfl⟩
    · rintro st ⟨rfl, rfl⟩
      refine Wc.seq ?_
      refine Wc.region [] [] [4] [] [] ⟨[(4, (.v (.bool true), []))], [], []⟩ _ (by kernel_rfl) .nil ?_
      refine Wc.ret ?_
      obtain rfl := Option.some.inj h
      exact ⟨.inl rfl, by kernel_rfl, by kernel_rfl⟩

/-- laws.eqCell -/
def plaws_eqCell (k : Nat) (c40_ : GCell) (c41_ : GCell) : Option Bool :=
  if (c40_.gKind != c41_.gKind) = true then
    some false
  else
    if (!(sEq c40_.gName c41_.gName)) = true then
      some false
    else
      if (c40_.gNum != c41_.gNum) = true then
        some false
      else
        if (c40_.gTo != c41_.gTo) = true then
          some false
        else
          (plaws_eqIntS k c40_.gKids c41_.gKids).bind fun i42_ =>
          if (!i42_) = true then
            some false
          else
            some true
theorem claws_eqCell {k : Nat} {c40_ : GCell} {c41_ : GCell} {r : Bool} (h : plaws_eqCell k c40_ c41_ = some r) : FnO Try.prog 120 [.v (.agg [.int .i64 c40_.gKind, .str c40_.gName, .int .i64 c40_.gNum, .int .i64 c40_.gTo, .sl (List.map cI.i64 c40_.gKids)]) [], .v (.agg [.int .i64 c41_.gKind, .str c41_.gName, .int .i64 c41_.gNum, .int .i64 c41_.gTo, .sl (List.map cI.i64 c41_.gKids)]) []] (.v (.bool r) []) [] := by
  refine FnO.of Try.func120 (rfl : Try.f120.body = some _) (Nat.le_of_ble_eq_true (by kernel_rfl)) (Nat.le_of_ble_eq_true (by kernel_rfl)) ?_
  intro w0 X0 Fin pv0 pb
  unfold plaws_eqCell at h
  refine Wc.seq ?_
  refine Wc.region [] [] [2, 3] [2, 3] [] ⟨[(2, (.ptr 2 0, [])), (3, (.ptr 3 0, []))], [(2, .cells [.int .i64 c40_.gKind, .str c40_.gName, .int .i64 c40_.gNum, .int .i64 c40_.gTo, .sl (List.map cI.i64 c40_.gKids)] []), (3, .cells [.int .i64 c41_.gKind, .str c41_.gName, .int .i64 c41_.gNum, .int .i64 c41_.gTo, .sl (List.map cI.i64 c41_.gKids)] [])], []⟩ _ (by kernel_rfl) .nil ?_
  refine Wc.seq ?_
  refine Wc.seq ?_
  refine Wc.region [] [] [2, 3, 9] [2, 3] [] ⟨[(2, (.ptr 2 0, [])), (3, (.ptr 3 0, [])), (9, (.v (.bool (c40_.gKind != c41_.gKind)), []))], [(2, .cells [.int .i64 c40_.gKind, .str c40_.gName, .int .i64 c40_.gNum, .int .i64 c40_.gTo, .sl (List.map cI.i64 c40_.gKids)] []), (3, .cells [.int .i64 c41_.gKind, .str c41_.gName, .int .i64 c41_.gNum, .int .i64 c41_.gTo, .sl (List.map cI.i64 c41_.gKids)] [])], []⟩ _ (by kernel_rfl) .nil ?_
  rcases oif h with ⟨h35, h⟩ | ⟨h35, h⟩
  · refine Wc.condT h35 (by kernel_rfl) ?_
    refine Wc.seq ?_
    refine Wc.region [] [] [4] [] [] ⟨[(4, (.v (.bool false), []))], [], []⟩ _ (by kernel_rfl) .nil ?_
    refine Wc.ret ?_
    obtain rfl := Option.some.inj h
    exact ⟨.inl rfl, by kernel_rfl, by kernel_rfl⟩
  · refine Wc.condF h35 (by kernel_rfl) ?_
    refine Wc.fix (st' := ⟨[(2, (.ptr 2 0, [])), (3, (.ptr 3 0, []))], [(2, .cells [.int .i64 c40_.gKind, .str c40_.gName, .int .i64 c40_.gNum, .int .i64 c40_.gTo, .sl (List.map cI.i64 c40_.gKids)] []), (3, .cells [.int .i64 c41_.gKind, .str c41_.gName, .int .i64 c41_.gNum, .int .i64 c41_.gTo, .sl (List.map cI.i64 c41_.gKids)] [])], []⟩) [] [2, 3] [2, 3] [] (by kernel_rfl) ?_
    refine Wc.skip ?_
    refine Wc.seq ?_
    refine Wc.seq ?_
    refine Wc.region [] [] [2, 3, 14] [2, 3] [] ⟨[(2, (.ptr 2 0, [])), (3, (.ptr 3 0, [])), (14, (.v (.bool (!(sEq c40_.gName c41_.gName))), []))], [(2, .cells [.int .i64 c40_.gKind, .str c40_.gName, .int .i64 c40_.gNum, .int .i64 c40_.gTo, .sl (List.map cI.i64 c40_.gKids)] []), (3, .cells [.int .i64 c41_.gKind, .str c41_.gName, .int .i64 c41_.gNum, .int .i64 c41_.gTo, .sl (List.map cI.i64 c41_.gKids)] [])], []⟩ _ (by kernel_rfl) .nil ?_
    rcases oif h with ⟨h36, h⟩ | ⟨h36, h⟩
    · refine Wc.condT h36 (by kernel_rfl) ?_
      refine Wc.seq ?_
      refine Wc.region [] [] [4] [] [] ⟨[(4, (.v (.bool false), []))], [], []⟩ _ (by kernel_rfl) .nil ?_
      refine Wc.ret ?_
      obtain rfl := Option.some.inj h
      exact ⟨.inl rfl, by kernel_rfl, by kernel_rfl⟩
    · refine Wc.condF h36 (by kernel_rfl) ?_
      refine Wc.fix (st' := ⟨[(2, (.ptr 2 0, [])), (3, (.ptr 3 0, []))], [(2, .cells [.int .i64 c40_.gKind, .str c40_.gName, .int .i64 c40_.gNum, .int .i64 c40_.gTo, .sl (List.map cI.i64 c40_.gKids)] []), (3, .cells [.int .i64 c41_.gKind, .str c41_.gName, .int .i64 c41_.gNum, .int .i64 c41_.gTo, .sl (List.map cI.i64 c41_.gKids)] [])], []⟩) [] [2, 3] [2, 3] [] (by kernel_rfl) ?_
      refine Wc.skip ?_
      refine Wc.seq ?_
      refine Wc.seq ?_
      refine Wc.region [] [] [2, 3, 19] [2, 3] [] ⟨[(2, (.ptr 2 0, [])), (3, (.ptr 3 0, [])), (19, (.v (.bool (c40_.gNum != c41_.gNum)), []))], [(2, .cells [.int .i64 c40_.gKind, .str c40_.gName, .int .i64 c40_.gNum, .int .i64 c40_.gTo, .sl (List.map cI.i64 c40_.gKids)] []), (3, .cells [.int .i64 c41_.gKind, .str c41_.gName, .int .i64 c41_.gNum, .int .i64 c41_.gTo, .sl (List.map cI.i64 c41_.gKids)] [])], []⟩ _ (by kernel_rfl) .nil ?_
      rcases oif h with ⟨h37, h⟩ | ⟨h37, h⟩
      · refine Wc.condT h37 (by kernel_rfl) ?_
        refine Wc.seq ?_
        refine Wc.region [] [] [4] [] [] ⟨[(4, (.v (.bool false), []))], [], []⟩ _ (by kernel_rfl) .nil ?_
        refine Wc.ret ?_
        obtain rfl := Option.some.inj h
        exact ⟨.inl rfl, by kernel_rfl, by kernel_rfl⟩
      · refine Wc.condF h37 (by kernel_rfl) ?_
        refine Wc.fix (st' := ⟨[(2, (.ptr 2 0, [])), (3, (.ptr 3 0, []))], [(2, .cells [.int .i64 c40_.gKind, .str c40_.gName, .int .i64 c40_.gNum, .int .i64 c40_.gTo, .sl (List.map cI.i64 c40_.gKids)] []), (3, .cells [.int .i64 c41_.gKind, .str c41_.gName, .int .i64 c41_.gNum, .int .i64 c41_.gTo, .sl (List.map cI.i64 c41_.gKids)] [])], []⟩) [] [2, 3] [2, 3] [] (by kernel_rfl) ?_
        refine Wc.skip ?_
        refine Wc.seq ?_
        refine Wc.seq ?_
        refine Wc.region [] [] [2, 3, 24] [2, 3] [] ⟨[(2, (.ptr 2 0, [])), (3, (.ptr 3 0, [])), (24, (.v (.bool (c40_.gTo != c41_.gTo)), []))], [(2, .cells [.int .i64 c40_.gKind, .str c40_.gName, .int .i64 c40_.gNum, .int .i64 c40_.gTo, .sl (List.map cI.i64 c40_.gKids)] []), (3, .cells [.int .i64 c41_.gKind, .str c41_.gName, .int .i64 c41_.gNum, .int .i64 c41_.gTo, .sl (List.map cI.i64 c41_.gKids)] [])], []⟩ _ (by kernel_rfl) .nil ?_
        rcases oif h with ⟨h38, h⟩ | ⟨h38, h⟩
        · refine Wc.condT h38 (by kernel_rfl) ?_
          refine Wc.seq ?_
          refine Wc.region [] [] [4] [] [] ⟨[(4, (.v (.bool false), []))], [], []⟩ _ (by kernel_rfl) .nil ?_
          refine Wc.ret ?_
          obtain rfl := Option.some.inj h
          exact ⟨.inl rfl, by kernel_rfl, by kernel_rfl⟩
        · refine Wc.condF h38 (by kernel_rfl) ?_
          refine Wc.fix (st' := ⟨[(2, (.ptr 2 0, [])), (3, (.ptr 3 0, []))], [(2, .cells [.int .i64 c40_.gKind, .str c40_.gName, .int .i64 c40_.gNum, .int .i64 c40_.gTo, .sl (List.map cI.i64 c40_.gKids)] []), (3, .cells [.int .i64 c41_.gKind, .str c41_.gName, .int .i64 c41_.gNum, .int .i64 c41_.gTo, .sl (List.map cI.i64 c41_.gKids)] [])], []⟩) [] [2, 3] [2, 3] [] (by kernel_rfl) ?_
          refine Wc.skip ?_
          refine Wc.seq ?_
          refine Wc.seq ?_
          obtain ⟨i42_, h39, h⟩ := obind h
          refine Wc.region [{}, {}, {}, {}, { r := some (.v (.bool i42_) []) }] [] [30] [] [] ⟨[(30, (.v (.bool (!i42_)), []))], [], []⟩ _ (by kernel_rfl) (.cons (claws_eqIntS h39) .nil) ?_
          rcases oif h with ⟨h40, h⟩ | ⟨h40, h⟩
          · refine Wc.condT h40 (by kernel_rfl) ?_
            refine Wc.seq ?_
            refine Wc.region [] [] [4] [] [] ⟨[(4, (.v (.bool false), []))], [], []⟩ _ (by kernel_rfl) .nil ?_
            refine Wc.ret ?_
            obtain rfl := Option.some.inj h
            exact ⟨.inl rfl, by kernel_rfl, by kernel_rfl⟩
          · refine Wc.condF h40 (by kernel_rfl) ?_
            refine Wc.fix (st' := ⟨[], [], []⟩) [] [] [] [] (by kernel_rfl) ?_
            refine Wc.skip ?_
            refine Wc.seq ?_
            refine Wc.region [] [] [4] [] [] ⟨[(4, (.v (.bool true), []))], [], []⟩ _ (by kernel_rfl) .nil ?_
            refine Wc.ret ?_
            obtain rfl := Option.some.inj h
            exact ⟨.inl rfl, by kernel_rfl, by kernel_rfl⟩

def plaws_eqCellS_L1 (k : Nat) (d43_ : List GCell) (d44_ : List GCell) : Nat → Int → Option (Out Bool Unit)
  | 0, _ => none
  | m + 1, b45_ =>
    if (decide (b45_ < (d43_.length : Int))) = true then
      (at' d43_ b45_).bind fun c46_ =>
      (at' d44_ b45_).bind fun c47_ =>
      (plaws_eqCell k c46_ c47_).bind fun i48_ =>
      if (!i48_) = true then
        some (.ret false)
      else
        plaws_eqCellS_L1 k d43_ d44_ m (wr.i64 (b45_ + 1))
    else
      some (.done ())
/-- laws.eqCellS -/
def plaws_eqCellS (k : Nat) (d43_ : List GCell) (d44_ : List GCell) : Option Bool :=
  if ((d43_.length : Int) != (d44_.length : Int)) = true then
    some false
  else
    (plaws_eqCellS_L1 k d43_ d44_ k 0).bind fun out1 => match out1 with
    | .ret r => some r
    | .done () =>
      some true
theorem claws_eqCellS {k : Nat} {d43_ : List GCell} {d44_ : List GCell} {r : Bool} (h : plaws_eqCellS k d43_ d44_ = some r) : FnO Try.prog 83 [.v (.sl (List.map GCell.c d43_)) [], .v (.sl (List.map GCell.c d44_)) []] (.v (.bool r) []) [] := by
  refine FnO.of Try.func83 (rfl : Try.f83.body = some _) (Nat.le_of_ble_eq_true (by kernel_rfl)) (Nat.le_of_ble_eq_true (by kernel_rfl)) ?_
  intro w0 X0 Fin pv0 pb
  unfold plaws_eqCellS at h
  refine Wc.seq ?_
  refine Wc.region [] [] [0, 1] [] [] ⟨[(0, (.v (.sl (List.map GCell.c d43_)), [])), (1, (.v (.sl (List.map GCell.c d44_)), []))], [], []⟩ _ (by kernel_rfl) .nil ?_
  refine Wc.seq ?_
  refine Wc.seq ?_
  refine Wc.region [{}, { v := some (.int .i64 (d43_.length : Int)) }, {}, { v := some (.int .i64 (d44_.length : Int)) }] [] [0, 1, 10] [] [] ⟨[(0, (.v (.sl (List.map GCell.c d43_)), [])), (1, (.v (.sl (List.map GCell.c d44_)), [])), (10, (.v (.bool ((d43_.length : Int) != (d44_.length : Int))), []))], [], []⟩ _ (by kernel_rfl) (.cons (len_obl GCell.c d43_) (.cons (len_obl GCell.c d44_) .nil)) ?_
  rcases oif h with ⟨h41, h⟩ | ⟨h41, h⟩
  · refine Wc.condT h41 (by kernel_rfl) ?_
    refine Wc.seq ?_
    refine Wc.region [] [] [4] [] [] ⟨[(4, (.v (.bool false), []))], [], []⟩ _ (by kernel_rfl) .nil ?_
    refine Wc.ret ?_
    obtain rfl := Option.some.inj h
    exact ⟨.inl rfl, by kernel_rfl, by kernel_rfl⟩
  · refine Wc.condF h41 (by kernel_rfl) ?_
    refine Wc.fix (st' := ⟨[(0, (.v (.sl (List.map GCell.c d43_)), [])), (1, (.v (.sl (List.map GCell.c d44_)), []))], [], []⟩) [] [0, 1] [] [] (by kernel_rfl) ?_
    refine Wc.skip ?_
    refine Wc.seq ?_
    refine Wc.seq ?_
    refine Wc.region [] [] [0, 1, 5] [] [] ⟨[(0, (.v (.sl (List.map GCell.c d43_)), [])), (1, (.v (.sl (List.map GCell.c d44_)), [])), (5, (.v (.int .i64 0), []))], [], []⟩ _ (by kernel_rfl) .nil ?_
    obtain ⟨out1, h42, h⟩ := obind h
    refine Wc.lastJ (fun st => out1 = .done () ∧ st = ⟨[], [], []⟩) ?_ ?_
    · refine Wc.block ?_
      refine Wc.loop (fun m st => ∃ (b45_ : Int), st = ⟨[(0, (.v (.sl (List.map GCell.c d43_)), [])), (1, (.v (.sl (List.map GCell.c d44_)), [])), (5, (.v (.int .i64 b45_), []))], [], []⟩ ∧ plaws_eqCellS_L1 k d43_ d44_ m b45_ = some out1) ?_ k ⟨_, rfl, h42⟩
      rintro m st ⟨b45_, rfl, h42⟩
      cases m with
      | zero => exact (onone h42).elim
      | succ m =>
        refine Wc.seq ?_
        refine Wc.seq ?_
        refine Wc.region [{}, {}, { v := some (.int .i64 (d43_.length : Int)) }] [] [0, 1, 5, 14] [] [] ⟨[(0, (.v (.sl (List.map GCell.c d43_)), [])), (1, (.v (.sl (List.map GCell.c d44_)), [])), (5, (.v (.int .i64 b45_), [])), (14, (.v (.bool (decide (b45_ < (d43_.length : Int)))), []))], [], []⟩ _ (by kernel_rfl) (.cons (len_obl GCell.c d43_) .nil) ?_
        rcases oif h42 with ⟨h43, h42⟩ | ⟨h43, h42⟩
        · refine Wc.condT h43 (by kernel_rfl) ?_
          refine Wc.fix (st' := ⟨[(0, (.v (.sl (List.map GCell.c d43_)), [])), (1, (.v (.sl (List.map GCell.c d44_)), [])), (5, (.v (.int .i64 b45_), []))], [], []⟩) [] [0, 1, 5] [] [] (by kernel_rfl) ?_
          refine Wc.skip ?_
          refine Wc.seq ?_
          refine Wc.block ?_
          refine Wc.seq ?_
          obtain ⟨c46_, h44, h42⟩ := obind h42
          obtain ⟨c47_, h45, h42⟩ := obind h42
          obtain ⟨i48_, h46, h42⟩ := obind h42
          refine Wc.draw hmix [{}, {}, { v := some (.vptr [.int .i64 c46_.gKind, .str c46_.gName, .int .i64 c46_.gNum, .int .i64 c46_.gTo, .sl (List.map cI.i64 c46_.gKids)]) }, {}, {}, {}, { v := some (.vptr [.int .i64 c47_.gKind, .str c47_.gName, .int .i64 c47_.gNum, .int .i64 c47_.gTo, .sl (List.map cI.i64 c47_.gKids)]) }, {}, { r := some (.v (.bool i48_) []) }] [] [0, 1, 5, 26] [] [] ⟨[(0, (.v (.sl (List.map GCell.c d43_)), [])), (1, (.v (.sl (List.map GCell.c d44_)), [])), (5, (.v (.int .i64 b45_), [])), (26, (.v (.bool (!i48_)), []))], [], []⟩ _ (by kernel_rfl) (fun X => by kernel_rfl) (.cons (at_obl (c := GCell.c) (GCell.c_eq c46_) GCell.c_len h44) (.cons (len_ok 5 [.int .i64 c46_.gKind, .str c46_.gName, .int .i64 c46_.gNum, .int .i64 c46_.gTo, .sl (List.map cI.i64 c46_.gKids)]) (.cons (at_obl (c := GCell.c) (GCell.c_eq c47_) GCell.c_len h45) (.cons (len_ok 5 [.int .i64 c47_.gKind, .str c47_.gName, .int .i64 c47_.gNum, .int .i64 c47_.gTo, .sl (List.map cI.i64 c47_.gKids)]) (.cons (claws_eqCell h46) .nil))))) ?_
          rcases oif h42 with ⟨h47, h42⟩ | ⟨h47, h42⟩
          · refine Wc.condT h47 (by kernel_rfl) ?_
            refine Wc.seq ?_
            refine Wc.region [] [] [4] [] [] ⟨[(4, (.v (.bool false), []))], [], []⟩ _ (by kernel_rfl) .nil ?_
            refine Wc.ret ?_
            obtain rfl := Option.some.inj h42
            obtain rfl := Option.some.inj h
            exact ⟨.inl rfl, by kernel_rfl, by kernel_rfl⟩
          · refine Wc.condF h47 (by kernel_rfl) ?_
            refine Wc.fix (st' := ⟨[(0, (.v (.sl (List.map GCell.c d43_)), [])), (1, (.v (.sl (List.map GCell.c d44_)), [])), (5, (.v (.int .i64 b45_), []))], [], []⟩) [] [0, 1, 5] [] [] (by kernel_rfl) ?_
            refine Wc.skip ?_
            refine Wc.region [] [] [0, 1, 5] [] [] ⟨[(0, (.v (.sl (List.map GCell.c d43_)), [])), (1, (.v (.sl (List.map GCell.c d44_)), [])), (5, (.v (.int .i64 (wr.i64 (b45_ + 1))), []))], [], []⟩ _ (by kernel_rfl) .nil ?_
            exact ⟨_, Nat.lt_succ_self _, _, rfl, h42⟩
        · refine Wc.condF h43 (by kernel_rfl) ?_
          refine Wc.fix (st' := ⟨[], [], []⟩) [] [] [] [] (by kernel_rfl) ?_
          refine Wc.exit ?_
          obtain rfl := Option.some.inj h42
          exact ⟨rfl, rfl⟩
    · rintro st ⟨rfl, rfl⟩
      refine Wc.seq ?_
      refine Wc.region [] [] [4] [] [] ⟨[(4, (.v (.bool true), []))], [], []⟩ _ (by kernel_rfl) .nil ?_
      refine Wc.ret ?_
      obtain rfl := Option.some.inj h
      exact ⟨.inl rfl, by kernel_rfl, by kernel_rfl⟩

/-- laws.eqHeap -/
def plaws_eqHeap (k : Nat) (e49_ : GHeap) (e50_ : GHeap) : Option Bool :=
  (plaws_eqCellS k e49_.gCells e50_.gCells).bind fun i51_ =>
  if (!i51_) = true then
    some false
  else
    (plaws_eqIntS k e49_.gTrail e50_.gTrail).bind fun i52_ =>
    if (!i52_) = true then
      some false
    else
      some true
theorem claws_eqHeap {k : Nat} {e49_ : GHeap} {e50_ : GHeap} {r : Bool} (h : plaws_eqHeap k e49_ e50_ = some r) : FnO Try.prog 40 [.v (.agg [.sl (List.map GCell.c e49_.gCells), .sl (List.map cI.i64 e49_.gTrail)]) [], .v (.agg [.sl (List.map GCell.c e50_.gCells), .sl (List.map cI.i64 e50_.gTrail)]) []] (.v (.bool r) []) [] := by
  refine FnO.of Try.func40 (rfl : Try.f40.body = some _) (Nat.le_of_ble_eq_true (by kernel_rfl)) (Nat.le_of_ble_eq_true (by kernel_rfl)) ?_
  intro w0 X0 Fin pv0 pb
  unfold plaws_eqHeap at h
  refine Wc.seq ?_
  refine Wc.region [] [] [2, 3] [2, 3] [] ⟨[(2, (.ptr 2 0, [])), (3, (.ptr 3 0, []))], [(2, .cells [.sl (List.map GCell.c e49_.gCells), .sl (List.map cI.i64 e49_.gTrail)] []), (3, .cells [.sl (List.map GCell.c e50_.gCells), .sl (List.map cI.i64 e50_.gTrail)] [])], []⟩ _ (by kernel_rfl) .nil ?_
  refine Wc.seq ?_
  refine Wc.seq ?_
  obtain ⟨i51_, h48, h⟩ := obind h
  refine Wc.region [{}, {}, {}, {}, { r := some (.v (.bool i51_) []) }] [] [2, 3, 10] [2, 3] [] ⟨[(2, (.ptr 2 0, [])), (3, (.ptr 3 0, [])), (10, (.v (.bool (!i51_)), []))], [(2, .cells [.sl (List.map GCell.c e49_.gCells), .sl (List.map cI.i64 e49_.gTrail)] []), (3, .cells [.sl (List.map GCell.c e50_.gCells), .sl (List.map cI.i64 e50_.gTrail)] [])], []⟩ _ (by kernel_rfl) (.cons (claws_eqCellS h48) .nil) ?_
  rcases oif h with ⟨h49, h⟩ | ⟨h49, h⟩
  · refine Wc.condT h49 (by kernel_rfl) ?_
    refine Wc.seq ?_
    refine Wc.region [] [] [4] [] [] ⟨[(4, (.v (.bool false), []))], [], []⟩ _ (by kernel_rfl) .nil ?_
    refine Wc.ret ?_
    obtain rfl := Option.some.inj h
    exact ⟨.inl rfl, by kernel_rfl, by kernel_rfl⟩
  · refine Wc.condF h49 (by kernel_rfl) ?_
    refine Wc.fix (st' := ⟨[(2, (.ptr 2 0, [])), (3, (.ptr 3 0, []))], [(2, .cells [.sl (List.map GCell.c e49_.gCells), .sl (List.map cI.i64 e49_.gTrail)] []), (3, .cells [.sl (List.map GCell.c e50_.gCells), .sl (List.map cI.i64 e50_.gTrail)] [])], []⟩) [] [2, 3] [2, 3] [] (by kernel_rfl) ?_
    refine Wc.skip ?_
    refine Wc.seq ?_
    refine Wc.seq ?_
    obtain ⟨i52_, h50, h⟩ := obind h
    refine Wc.region [{}, {}, {}, {}, { r := some (.v (.bool i52_) []) }] [] [16] [] [] ⟨[(16, (.v (.bool (!i52_)), []))], [], []⟩ _ (by kernel_rfl) (.cons (claws_eqIntS h50) .nil) ?_
    rcases oif h with ⟨h51, h⟩ | ⟨h51, h⟩
    · refine Wc.condT h51 (by kernel_rfl) ?_
      refine Wc.seq ?_
      refine Wc.region [] [] [4] [] [] ⟨[(4, (.v (.bool false), []))], [], []⟩ _ (by kernel_rfl) .nil ?_
      refine Wc.ret ?_
      obtain rfl := Option.some.inj h
      exact ⟨.inl rfl, by kernel_rfl, by kernel_rfl⟩
    · refine Wc.condF h51 (by kernel_rfl) ?_
      refine Wc.fix (st' := ⟨[], [], []⟩) [] [] [] [] (by kernel_rfl) ?_
      refine Wc.skip ?_
      refine Wc.seq ?_
      refine Wc.region [] [] [4] [] [] ⟨[(4, (.v (.bool true), []))], [], []⟩ _ (by kernel_rfl) .nil ?_
      refine Wc.ret ?_
      obtain rfl := Option.some.inj h
      exact ⟨.inl rfl, by kernel_rfl, by kernel_rfl⟩

def plaws_markIntS_L1 (k : Nat) : Nat → Int → Int → (List Int) → Option (Out ((List Int) × Int) (Int × (List Int)))
  | 0, _, _, _ => none
  | m + 1, b55_, b56_, a57_ =>
    if (decide (b56_ < (a57_.length : Int))) = true then
      (at' a57_ b56_).bind fun b60_ =>
      plaws_markIntS_L1 k m (wr.i64 (b55_ + 1)) (wr.i64 (b56_ + 1)) (a57_.set ((b56_).toNat) b55_)
    else
      some (.done (b55_, a57_))
/-- laws.markIntS -/
def plaws_markIntS (k : Nat) (a53_ : List Int) (b54_ : Int) : Option ((List Int) × Int) :=
  (plaws_markIntS_L1 k k b54_ 0 a53_).bind fun out1 => match out1 with
  | .ret r => some r
  | .done (b58_, a59_) =>
    some (a59_, b58_)
theorem claws_markIntS {k : Nat} {a53_ : List Int} {b54_ : Int} {r : (List Int) × Int} (h : plaws_markIntS k a53_ b54_ = some r) : FnO Try.prog 33 [.io (.slx) [(0, .ex 1000000007 true (List.map cI.i64 a53_))], .v (.int .i64 b54_) []] (.v (.int .i64 r.2) []) [(0, .v .undef [(0, .ex 1000000007 true (List.map cI.i64 r.1))])] := by
  refine FnO.of Try.func33 (rfl : Try.f33.body = some _) (Nat.le_of_ble_eq_true (by kernel_rfl)) (Nat.le_of_ble_eq_true (by kernel_rfl)) ?_
  intro w0 X0 Fin pv0 pb
  unfold plaws_markIntS at h
  refine Wc.seq ?_
  refine Wc.region [] [] [0, 1] [] [0] ⟨[(0, (.v (.slx), [(0, .al (.a 0 0) [])])), (1, (.v (.int .i64 b54_), []))], [], [(0, [(0, .ex 1000000007 true (List.map cI.i64 a53_))])]⟩ _ (by kernel_rfl) .nil ?_
  refine Wc.seq ?_
  refine Wc.seq ?_
  refine Wc.region [] [] [0, 1, 5] [] [0] ⟨[(0, (.v (.slx), [(0, .al (.a 0 0) [])])), (1, (.v (.int .i64 b54_), [])), (5, (.v (.int .i64 0), []))], [], [(0, [(0, .ex 1000000007 true (List.map cI.i64 a53_))])]⟩ _ (by kernel_rfl) .nil ?_
  obtain ⟨out1, h52, h⟩ := obind h
  refine Wc.lastJ (fun st => ∃ (b58_ : Int) (a59_ : List Int), out1 = .done (b58_, a59_) ∧ st = ⟨[(1, (.v (.int .i64 b58_), []))], [], [(0, [(0, .ex 1000000007 true (List.map cI.i64 a59_))])]⟩) ?_ ?_
  · refine Wc.block ?_
    refine Wc.loop (fun m st => ∃ (b55_ : Int) (b56_ : Int) (a57_ : List Int), st = ⟨[(0, (.v (.slx), [(0, .al (.a 0 0) [])])), (1, (.v (.int .i64 b55_), [])), (5, (.v (.int .i64 b56_), []))], [], [(0, [(0, .ex 1000000007 true (List.map cI.i64 a57_))])]⟩ ∧ plaws_markIntS_L1 k m b55_ b56_ a57_ = some out1) ?_ k ⟨_, _, _, rfl, h52⟩
    rintro m st ⟨b55_, b56_, a57_, rfl, h52⟩
    cases m with
    | zero => exact (onone h52).elim
    | succ m =>
      refine Wc.seq ?_
      refine Wc.seq ?_
      refine Wc.region [{}, {}, { v := some (.int .i64 (a57_.length : Int)) }] [] [0, 1, 5, 9] [] [0] ⟨[(0, (.v (.slx), [(0, .al (.a 0 0) [])])), (1, (.v (.int .i64 b55_), [])), (5, (.v (.int .i64 b56_), [])), (9, (.v (.bool (decide (b56_ < (a57_.length : Int)))), []))], [], [(0, [(0, .ex 1000000007 true (List.map cI.i64 a57_))])]⟩ _ (by kernel_rfl) (.cons (len_obl cI.i64 a57_) .nil) ?_
      rcases oif h52 with ⟨h53, h52⟩ | ⟨h53, h52⟩
      · refine Wc.condT h53 (by kernel_rfl) ?_
        refine Wc.fix (st' := ⟨[(0, (.v (.slx), [(0, .al (.a 0 0) [])])), (1, (.v (.int .i64 b55_), [])), (5, (.v (.int .i64 b56_), []))], [], [(0, [(0, .ex 1000000007 true (List.map cI.i64 a57_))])]⟩) [] [0, 1, 5] [] [0] (by kernel_rfl) ?_
        refine Wc.skip ?_
        refine Wc.seq ?_
        refine Wc.block ?_
        refine Wc.seq ?_
        obtain ⟨b60_, h54, h52⟩ := obind h52
        refine Wc.region [{}, {}, {}, {}, { c := some (List.map cI.i64 (a57_.set ((b56_).toNat) b55_)) }] [] [0, 1, 5] [] [0] ⟨[(0, (.v (.slx), [(0, .al (.a 0 0) [])])), (1, (.v (.int .i64 b55_), [])), (5, (.v (.int .i64 b56_), []))], [], [(0, [(0, .ex 1000000007 true (List.map cI.i64 (a57_.set ((b56_).toNat) b55_)))])]⟩ _ (by kernel_rfl) (.cons (ix_obl (c := cI.i64) cI.i64_len h54) (.cons (mod_obl (off := 0) (new := [.int .i64 b55_]) (c := cI.i64) rfl rfl (at'_spec h54).2 rfl) (.cons (st_obl (sz := 1) (off := 0) (s := 1) (c := cI.i64) rfl (at'_spec h54).2 rfl (Nat.le_of_ble_eq_true rfl)) .nil))) ?_
        refine Wc.region [] [] [0, 1, 5] [] [0] ⟨[(0, (.v (.slx), [(0, .al (.a 0 0) [])])), (1, (.v (.int .i64 (wr.i64 (b55_ + 1))), [])), (5, (.v (.int .i64 b56_), []))], [], [(0, [(0, .ex 1000000007 true (List.map cI.i64 (a57_.set ((b56_).toNat) b55_)))])]⟩ _ (by kernel_rfl) .nil ?_
        refine Wc.region [] [] [0, 1, 5] [] [0] ⟨[(0, (.v (.slx), [(0, .al (.a 0 0) [])])), (1, (.v (.int .i64 (wr.i64 (b55_ + 1))), [])), (5, (.v (.int .i64 (wr.i64 (b56_ + 1))), []))], [], [(0, [(0, .ex 1000000007 true (List.map cI.i64 (a57_.set ((b56_).toNat) b55_)))])]⟩ _ (by kernel_rfl) .nil ?_
        exact ⟨_, Nat.lt_succ_self _, _, _, _, rfl, h52⟩
      · refine Wc.condF h53 (by kernel_rfl) ?_
        refine Wc.fix (st' := ⟨[(1, (.v (.int .i64 b55_), []))], [], [(0, [(0, .ex 1000000007 true (List.map cI.i64 a57_))])]⟩) [] [1] [] [0] (by kernel_rfl) ?_
        refine Wc.exit ?_
        obtain rfl := Option.some.inj h52
        exact ⟨_, _, rfl, rfl⟩
  · rintro st ⟨b58_, a59_, rfl, rfl⟩
    refine Wc.seq ?_
    refine Wc.region [] [] [4] [] [0] ⟨[(4, (.v (.int .i64 b58_), []))], [], [(0, [(0, .ex 1000000007 true (List.map cI.i64 a59_))])]⟩ _ (by kernel_rfl) .nil ?_
    refine Wc.ret ?_
    obtain rfl := Option.some.inj h
    exact ⟨.inl rfl, by kernel_rfl, by kernel_rfl⟩

def plaws_markText_L1 (k : Nat) : Nat → Int → ByteArray → Option (Out ByteArray ByteArray)
  | 0, _, _ => none
  | m + 1, b62_, j63_ =>
    if (decide (b62_ > 0)) = true then
      if (10 : Int) ≠ 0 then
        if sumOk (strOfNums [wr.u8 (wr.i64 (48 + (Int.tmod b62_ 10)))]) j63_ then
          if (10 : Int) ≠ 0 then
            plaws_markText_L1 k m (wr.i64 (Int.tdiv b62_ 10)) ((strOfNums [wr.u8 (wr.i64 (48 + (Int.tmod b62_ 10)))]) ++ j63_)
          else none
        else none
      else none
    else
      some (.done j63_)
/-- laws.markText -/
def plaws_markText (k : Nat) (b61_ : Int) : Option ByteArray :=
  if (decide (b61_ ≤ 0)) = true then
    some (bs [109, 48])
  else
    (plaws_markText_L1 k k b61_ (bs [])).bind fun out1 => match out1 with
    | .ret r => some r
    | .done j64_ =>
      if sumOk (bs [109]) j64_ then
        some ((bs [109]) ++ j64_)
      else none
theorem claws_markText {k : Nat} {b61_ : Int} {r : ByteArray} (h : plaws_markText k b61_ = some r) : FnO Try.prog 51 [.v (.int .i64 b61_) []] (.v (.str r) []) [] := by
  refine FnO.of Try.func51 (rfl : Try.f51.body = some _) (Nat.le_of_ble_eq_true (by kernel_rfl)) (Nat.le_of_ble_eq_true (by kernel_rfl)) ?_
  intro w0 X0 Fin pv0 pb
  unfold plaws_markText at h
  refine Wc.seq ?_
  refine Wc.region [] [] [0] [] [] ⟨[(0, (.v (.int .i64 b61_), []))], [], []⟩ _ (by kernel_rfl) .nil ?_
  refine Wc.seq ?_
  refine Wc.seq ?_
  refine Wc.region [] [] [0, 5] [] [] ⟨[(0, (.v (.int .i64 b61_), [])), (5, (.v (.bool (decide (b61_ ≤ 0))), []))], [], []⟩ _ (by kernel_rfl) .nil ?_
  rcases oif h with ⟨h55, h⟩ | ⟨h55, h⟩
  · refine Wc.condT h55 (by kernel_rfl) ?_
    refine Wc.seq ?_
    refine Wc.region [] [] [2] [] [] ⟨[(2, (.v (.str (bs [109, 48])), []))], [], []⟩ _ (by kernel_rfl) .nil ?_
    refine Wc.ret ?_
    obtain rfl := Option.some.inj h
    exact ⟨.inl rfl, by kernel_rfl, by kernel_rfl⟩
  · refine Wc.condF h55 (by kernel_rfl) ?_
    refine Wc.fix (st' := ⟨[(0, (.v (.int .i64 b61_), []))], [], []⟩) [] [0] [] [] (by kernel_rfl) ?_
    refine Wc.skip ?_
    refine Wc.seq ?_
    refine Wc.region [] [] [0, 3] [] [] ⟨[(0, (.v (.int .i64 b61_), [])), (3, (.v (.str (bs [])), []))], [], []⟩ _ (by kernel_rfl) .nil ?_
    obtain ⟨out1, h56, h⟩ := obind h
    refine Wc.seqJ (fun st => ∃ (j64_ : ByteArray), out1 = .done j64_ ∧ st = ⟨[(3, (.v (.str j64_), []))], [], []⟩) ?_ ?_
    · refine Wc.block ?_
      refine Wc.loop (fun m st => ∃ (b62_ : Int) (j63_ : ByteArray), st = ⟨[(0, (.v (.int .i64 b62_), [])), (3, (.v (.str j63_), []))], [], []⟩ ∧ plaws_markText_L1 k m b62_ j63_ = some out1) ?_ k ⟨_, _, rfl, h56⟩
      rintro m st ⟨b62_, j63_, rfl, h56⟩
      cases m with
      | zero => exact (onone h56).elim
      | succ m =>
        refine Wc.seq ?_
        refine Wc.seq ?_
        refine Wc.region [] [] [0, 3, 7] [] [] ⟨[(0, (.v (.int .i64 b62_), [])), (3, (.v (.str j63_), [])), (7, (.v (.bool (decide (b62_ > 0))), []))], [], []⟩ _ (by kernel_rfl) .nil ?_
        rcases oif h56 with ⟨h57, h56⟩ | ⟨h57, h56⟩
        · refine Wc.condT h57 (by kernel_rfl) ?_
          refine Wc.fix (st' := ⟨[(0, (.v (.int .i64 b62_), [])), (3, (.v (.str j63_), []))], [], []⟩) [] [0, 3] [] [] (by kernel_rfl) ?_
          refine Wc.skip ?_
          refine Wc.block ?_
          refine Wc.seq ?_
          obtain ⟨h58, h56⟩ := oguard h56
          obtain ⟨h59, h56⟩ := oguard h56
          refine Wc.region [{}, {}, {}, {}, { c := some (List.map cI.u8 [wr.u8 (wr.i64 (48 + (Int.tmod b62_ 10)))]) }, { v := some (.str (strOfNums [wr.u8 (wr.i64 (48 + (Int.tmod b62_ 10)))])) }] [] [0, 3] [] [] ⟨[(0, (.v (.int .i64 b62_), [])), (3, (.v (.str ((strOfNums [wr.u8 (wr.i64 (48 + (Int.tmod b62_ 10)))]) ++ j63_)), []))], [], []⟩ _ (by kernel_rfl) (.cons h58 (.cons (cl_cons (c := cI.u8) (x := wr.u8 (wr.i64 (48 + (Int.tmod b62_ 10)))) rfl (cl_nil cI.u8)) (.cons (bytes_obl [wr.u8 (wr.i64 (48 + (Int.tmod b62_ 10)))]) (.cons h59 .nil)))) ?_
          obtain ⟨h60, h56⟩ := oguard h56
          refine Wc.region [] [] [0, 3] [] [] ⟨[(0, (.v (.int .i64 (wr.i64 (Int.tdiv b62_ 10))), [])), (3, (.v (.str ((strOfNums [wr.u8 (wr.i64 (48 + (Int.tmod b62_ 10)))]) ++ j63_)), []))], [], []⟩ _ (by kernel_rfl) (.cons h60 .nil) ?_
          exact ⟨_, Nat.lt_succ_self _, _, _, rfl, h56⟩
        · refine Wc.condF h57 (by kernel_rfl) ?_
          refine Wc.fix (st' := ⟨[(3, (.v (.str j63_), []))], [], []⟩) [] [3] [] [] (by kernel_rfl) ?_
          refine Wc.exit ?_
          obtain rfl := Option.some.inj h56
          exact ⟨_, rfl, rfl⟩
    · rintro st ⟨j64_, rfl, rfl⟩
      refine Wc.seq ?_
      obtain ⟨h61, h⟩ := oguard h
      refine Wc.region [] [] [2] [] [] ⟨[(2, (.v (.str ((bs [109]) ++ j64_)), []))], [], []⟩ _ (by kernel_rfl) (.cons h61 .nil) ?_
      refine Wc.ret ?_
      obtain rfl := Option.some.inj h
      exact ⟨.inl rfl, by kernel_rfl, by kernel_rfl⟩

def plaws_markCellS_L1 (k : Nat) : Nat → Int → Int → (List GCell) → Option (Out ((List GCell) × Int) (Int × (List GCell)))
  | 0, _, _, _ => none
  | m + 1, b67_, b68_, d69_ =>
    if (decide (b68_ < (d69_.length : Int))) = true then
      (at' d69_ b68_).bind fun c72_ =>
      (plaws_markText k (wr.i64 (b67_ + 1))).bind fun j73_ =>
      (at' (d69_.set ((b68_).toNat) (GCell.mk b67_ c72_.gName c72_.gNum c72_.gTo c72_.gKids)) b68_).bind fun c74_ =>
      (at' ((d69_.set ((b68_).toNat) (GCell.mk b67_ c72_.gName c72_.gNum c72_.gTo c72_.gKids)).set ((b68_).toNat) (GCell.mk c74_.gKind j73_ c74_.gNum c74_.gTo c74_.gKids)) b68_).bind fun c75_ =>
      (at' (((d69_.set ((b68_).toNat) (GCell.mk b67_ c72_.gName c72_.gNum c72_.gTo c72_.gKids)).set ((b68_).toNat) (GCell.mk c74_.gKind j73_ c74_.gNum c74_.gTo c74_.gKids)).set ((b68_).toNat) (GCell.mk c75_.gKind c75_.gName (wr.i64 ((wr.i64 (b67_ + 1)) + 1)) c75_.gTo c75_.gKids)) b68_).bind fun c76_ =>
      (at' ((((d69_.set ((b68_).toNat) (GCell.mk b67_ c72_.gName c72_.gNum c72_.gTo c72_.gKids)).set ((b68_).toNat) (GCell.mk c74_.gKind j73_ c74_.gNum c74_.gTo c74_.gKids)).set ((b68_).toNat) (GCell.mk c75_.gKind c75_.gName (wr.i64 ((wr.i64 (b67_ + 1)) + 1)) c75_.gTo c75_.gKids)).set ((b68_).toNat) (GCell.mk c76_.gKind c76_.gName c76_.gNum (wr.i64 ((wr.i64 ((wr.i64 (b67_ + 1)) + 1)) + 1)) c76_.gKids)) b68_).bind fun c77_ =>
      (plaws_markIntS k c77_.gKids (wr.i64 ((wr.i64 ((wr.i64 ((wr.i64 (b67_ + 1)) + 1)) + 1)) + 1))).bind fun l78_ =>
      plaws_markCellS_L1 k m l78_.2 (wr.i64 (b68_ + 1)) (((((d69_.set ((b68_).toNat) (GCell.mk b67_ c72_.gName c72_.gNum c72_.gTo c72_.gKids)).set ((b68_).toNat) (GCell.mk c74_.gKind j73_ c74_.gNum c74_.gTo c74_.gKids)).set ((b68_).toNat) (GCell.mk c75_.gKind c75_.gName (wr.i64 ((wr.i64 (b67_ + 1)) + 1)) c75_.gTo c75_.gKids)).set ((b68_).toNat) (GCell.mk c76_.gKind c76_.gName c76_.gNum (wr.i64 ((wr.i64 ((wr.i64 (b67_ + 1)) + 1)) + 1)) c76_.gKids)).set ((b68_).toNat) (GCell.mk c77_.gKind c77_.gName c77_.gNum c77_.gTo l78_.1))
    else
      some (.done (b67_, d69_))
/-- laws.markCellS -/
def plaws_markCellS (k : Nat) (d65_ : List GCell) (b66_ : Int) : Option ((List GCell) × Int) :=
  (plaws_markCellS_L1 k k b66_ 0 d65_).bind fun out1 => match out1 with
  | .ret r => some r
  | .done (b70_, d71_) =>
    some (d71_, b70_)
set_option maxHeartbeats 4000000 in
theorem claws_markCellS {k : Nat} {d65_ : List GCell} {b66_ : Int} {r : (List GCell) × Int} (h : plaws_markCellS k d65_ b66_ = some r) : FnO Try.prog 84 [.io (.slx) [(0, .ex 1000000007 true (List.map GCell.c d65_))], .v (.int .i64 b66_) []] (.v (.int .i64 r.2) []) [(0, .v .undef [(0, .ex 1000000007 true (List.map GCell.c r.1))])] := by
  refine FnO.of Try.func84 (rfl : Try.f84.body = some _) (Nat.le_of_ble_eq_true (by kernel_rfl)) (Nat.le_of_ble_eq_true (by kernel_rfl)) ?_
  intro w0 X0 Fin pv0 pb
  unfold plaws_markCellS at h
  refine Wc.seq ?_
  refine Wc.region [] [] [0, 1] [] [0] ⟨[(0, (.v (.slx), [(0, .al (.a 0 0) [])])), (1, (.v (.int .i64 b66_), []))], [], [(0, [(0, .ex 1000000007 true (List.map GCell.c d65_))])]⟩ _ (by kernel_rfl) .nil ?_
  refine Wc.seq ?_
  refine Wc.seq ?_
  refine Wc.region [] [] [0, 1, 5] [] [0] ⟨[(0, (.v (.slx), [(0, .al (.a 0 0) [])])), (1, (.v (.int .i64 b66_), [])), (5, (.v (.int .i64 0), []))], [], [(0, [(0, .ex 1000000007 true (List.map GCell.c d65_))])]⟩ _ (by kernel_rfl) .nil ?_
  obtain ⟨out1, h62, h⟩ := obind h
  refine Wc.lastJ (fun st => ∃ (b70_ : Int) (d71_ : List GCell), out1 = .done (b70_, d71_) ∧ st = ⟨[(1, (.v (.int .i64 b70_), []))], [], [(0, [(0, .ex 1000000007 true (List.map GCell.c d71_))])]⟩) ?_ ?_
  · refine Wc.block ?_
    refine Wc.loop (fun m st => ∃ (b67_ : Int) (b68_ : Int) (d69_ : List GCell), st = ⟨[(0, (.v (.slx), [(0, .al (.a 0 0) [])])), (1, (.v (.int .i64 b67_), [])), (5, (.v (.int .i64 b68_), []))], [], [(0, [(0, .ex 1000000007 true (List.map GCell.c d69_))])]⟩ ∧ plaws_markCellS_L1 k m b67_ b68_ d69_ = some out1) ?_ k ⟨_, _, _, rfl, h62⟩
    rintro m st ⟨b67_, b68_, d69_, rfl, h62⟩
    cases m with
    | zero => exact (onone h62).elim
    | succ m =>
      refine Wc.seq ?_
      refine Wc.seq ?_
      refine Wc.region [{}, {}, { v := some (.int .i64 (d69_.length : Int)) }] [] [0, 1, 5, 9] [] [0] ⟨[(0, (.v (.slx), [(0, .al (.a 0 0) [])])), (1, (.v (.int .i64 b67_), [])), (5, (.v (.int .i64 b68_), [])), (9, (.v (.bool (decide (b68_ < (d69_.length : Int)))), []))], [], [(0, [(0, .ex 1000000007 true (List.map GCell.c d69_))])]⟩ _ (by kernel_rfl) (.cons (len_obl GCell.c d69_) .nil) ?_
      rcases oif h62 with ⟨h63, h62⟩ | ⟨h63, h62⟩
      · refine Wc.condT h63 (by kernel_rfl) ?_
        refine Wc.fix (st' := ⟨[(0, (.v (.slx), [(0, .al (.a 0 0) [])])), (1, (.v (.int .i64 b67_), [])), (5, (.v (.int .i64 b68_), []))], [], [(0, [(0, .ex 1000000007 true (List.map GCell.c d69_))])]⟩) [] [0, 1, 5] [] [0] (by kernel_rfl) ?_
        refine Wc.skip ?_
        refine Wc.seq ?_
        refine Wc.block ?_
        refine Wc.seq ?_
        obtain ⟨c72_, h64, h62⟩ := obind h62
        refine Wc.region [{}, {}, {}, {}, {}, { c := some (List.map GCell.c (d69_.set ((b68_).toNat) (GCell.mk b67_ c72_.gName c72_.gNum c72_.gTo c72_.gKids))) }] [] [0, 1, 5] [] [0] ⟨[(0, (.v (.slx), [(0, .al (.a 0 0) [])])), (1, (.v (.int .i64 b67_), [])), (5, (.v (.int .i64 b68_), []))], [], [(0, [(0, .ex 1000000007 true (List.map GCell.c (d69_.set ((b68_).toNat) (GCell.mk b67_ c72_.gName c72_.gNum c72_.gTo c72_.gKids))))])]⟩ _ (by kernel_rfl) (.cons (ix_obl (c := GCell.c) GCell.c_len h64) (.cons (mod_obl (off := 0) (new := [.int .i64 b67_]) (c := GCell.c) (GCell.c_eq c72_) (GCell.c_eq (GCell.mk b67_ c72_.gName c72_.gNum c72_.gTo c72_.gKids)) (at'_spec h64).2 rfl) (.cons (st_obl (sz := 5) (off := 0) (s := 1) (c := GCell.c) (GCell.c_eq c72_) (at'_spec h64).2 rfl (Nat.le_of_ble_eq_true rfl)) .nil))) ?_
        refine Wc.seq ?_
        refine Wc.region [] [] [0, 1, 5] [] [0] ⟨[(0, (.v (.slx), [(0, .al (.a 0 0) [])])), (1, (.v (.int .i64 (wr.i64 (b67_ + 1))), [])), (5, (.v (.int .i64 b68_), []))], [], [(0, [(0, .ex 1000000007 true (List.map GCell.c (d69_.set ((b68_).toNat) (GCell.mk b67_ c72_.gName c72_.gNum c72_.gTo c72_.gKids))))])]⟩ _ (by kernel_rfl) .nil ?_
        refine Wc.seq ?_
        obtain ⟨j73_, h65, h62⟩ := obind h62
        obtain ⟨c74_, h66, h62⟩ := obind h62
        refine Wc.region [{}, {}, {}, { r := some (.v (.str j73_) []) }, {}, {}, { c := some (List.map GCell.c ((d69_.set ((b68_).toNat) (GCell.mk b67_ c72_.gName c72_.gNum c72_.gTo c72_.gKids)).set ((b68_).toNat) (GCell.mk c74_.gKind j73_ c74_.gNum c74_.gTo c74_.gKids))) }] [] [0, 1, 5] [] [0] ⟨[(0, (.v (.slx), [(0, .al (.a 0 0) [])])), (1, (.v (.int .i64 (wr.i64 (b67_ + 1))), [])), (5, (.v (.int .i64 b68_), []))], [], [(0, [(0, .ex 1000000007 true (List.map GCell.c ((d69_.set ((b68_).toNat) (GCell.mk b67_ c72_.gName c72_.gNum c72_.gTo c72_.gKids)).set ((b68_).toNat) (GCell.mk c74_.gKind j73_ c74_.gNum c74_.gTo c74_.gKids))))])]⟩ _ (by kernel_rfl) (.cons (claws_markText h65) (.cons (ix_obl (c := GCell.c) GCell.c_len h66) (.cons (mod_obl (off := 1) (new := [.str j73_]) (c := GCell.c) (GCell.c_eq c74_) (GCell.c_eq (GCell.mk c74_.gKind j73_ c74_.gNum c74_.gTo c74_.gKids)) (at'_spec h66).2 rfl) (.cons (st_obl (sz := 5) (off := 1) (s := 1) (c := GCell.c) (GCell.c_eq c74_) (at'_spec h66).2 rfl (Nat.le_of_ble_eq_true rfl)) .nil)))) ?_
        refine Wc.seq ?_
        refine Wc.region [] [] [0, 1, 5] [] [0] ⟨[(0, (.v (.slx), [(0, .al (.a 0 0) [])])), (1, (.v (.int .i64 (wr.i64 ((wr.i64 (b67_ + 1)) + 1))), [])), (5, (.v (.int .i64 b68_), []))], [], [(0, [(0, .ex 1000000007 true (List.map GCell.c ((d69_.set ((b68_).toNat) (GCell.mk b67_ c72_.gName c72_.gNum c72_.gTo c72_.gKids)).set ((b68_).toNat) (GCell.mk c74_.gKind j73_ c74_.gNum c74_.gTo c74_.gKids))))])]⟩ _ (by kernel_rfl) .nil ?_
        refine Wc.seq ?_
        obtain ⟨c75_, h67, h62⟩ := obind h62
        refine Wc.region [{}, {}, {}, {}, {}, { c := some (List.map GCell.c (((d69_.set ((b68_).toNat) (GCell.mk b67_ c72_.gName c72_.gNum c72_.gTo c72_.gKids)).set ((b68_).toNat) (GCell.mk c74_.gKind j73_ c74_.gNum c74_.gTo c74_.gKids)).set ((b68_).toNat) (GCell.mk c75_.gKind c75_.gName (wr.i64 ((wr.i64 (b67_ + 1)) + 1)) c75_.gTo c75_.gKids))) }] [] [0, 1, 5] [] [0] ⟨[(0, (.v (.slx), [(0, .al (.a 0 0) [])])), (1, (.v (.int .i64 (wr.i64 ((wr.i64 (b67_ + 1)) + 1))), [])), (5, (.v (.int .i64 b68_), []))], [], [(0, [(0, .ex 1000000007 true (List.map GCell.c (((d69_.set ((b68_).toNat) (GCell.mk b67_ c72_.gName c72_.gNum c72_.gTo c72_.gKids)).set ((b68_).toNat) (GCell.mk c74_.gKind j73_ c74_.gNum c74_.gTo c74_.gKids)).set ((b68_).toNat) (GCell.mk c75_.gKind c75_.gName (wr.i64 ((wr.i64 (b67_ + 1)) + 1)) c75_.gTo c75_.gKids))))])]⟩ _ (by kernel_rfl) (.cons (ix_obl (c := GCell.c) GCell.c_len h67) (.cons (mod_obl (off := 2) (new := [.int .i64 (wr.i64 ((wr.i64 (b67_ + 1)) + 1))]) (c := GCell.c) (GCell.c_eq c75_) (GCell.c_eq (GCell.mk c75_.gKind c75_.gName (wr.i64 ((wr.i64 (b67_ + 1)) + 1)) c75_.gTo c75_.gKids)) (at'_spec h67).2 rfl) (.cons (st_obl (sz := 5) (off := 2) (s := 1) (c := GCell.c) (GCell.c_eq c75_) (at'_spec h67).2 rfl (Nat.le_of_ble_eq_true rfl)) .nil))) ?_
        refine Wc.seq ?_
        refine Wc.region [] [] [0, 1, 5] [] [0] ⟨[(0, (.v (.slx), [(0, .al (.a 0 0) [])])), (1, (.v (.int .i64 (wr.i64 ((wr.i64 ((wr.i64 (b67_ + 1)) + 1)) + 1))), [])), (5, (.v (.int .i64 b68_), []))], [], [(0, [(0, .ex 1000000007 true (List.map GCell.c (((d69_.set ((b68_).toNat) (GCell.mk b67_ c72_.gName c72_.gNum c72_.gTo c72_.gKids)).set ((b68_).toNat) (GCell.mk c74_.gKind j73_ c74_.gNum c74_.gTo c74_.gKids)).set ((b68_).toNat) (GCell.mk c75_.gKind c75_.gName (wr.i64 ((wr.i64 (b67_ + 1)) + 1)) c75_.gTo c75_.gKids))))])]⟩ _ (by kernel_rfl) .nil ?_
        refine Wc.seq ?_
        obtain ⟨c76_, h68, h62⟩ := obind h62
        refine Wc.region [{}, {}, {}, {}, {}, { c := some (List.map GCell.c ((((d69_.set ((b68_).toNat) (GCell.mk b67_ c72_.gName c72_.gNum c72_.gTo c72_.gKids)).set ((b68_).toNat) (GCell.mk c74_.gKind j73_ c74_.gNum c74_.gTo c74_.gKids)).set ((b68_).toNat) (GCell.mk c75_.gKind c75_.gName (wr.i64 ((wr.i64 (b67_ + 1)) + 1)) c75_.gTo c75_.gKids)).set ((b68_).toNat) (GCell.mk c76_.gKind c76_.gName c76_.gNum (wr.i64 ((wr.i64 ((wr.i64 (b67_ + 1)) + 1)) + 1)) c76_.gKids))) }] [] [0, 1, 5] [] [0] ⟨[(0, (.v (.slx), [(0, .al (.a 0 0) [])])), (1, (.v (.int .i64 (wr.i64 ((wr.i64 ((wr.i64 (b67_ + 1)) + 1)) + 1))), [])), (5, (.v (.int .i64 b68_), []))], [], [(0, [(0, .ex 1000000007 true (List.map GCell.c ((((d69_.set ((b68_).toNat) (GCell.mk b67_ c72_.gName c72_.gNum c72_.gTo c72_.gKids)).set ((b68_).toNat) (GCell.mk c74_.gKind j73_ c74_.gNum c74_.gTo c74_.gKids)).set ((b68_).toNat) (GCell.mk c75_.gKind c75_.gName (wr.i64 ((wr.i64 (b67_ + 1)) + 1)) c75_.gTo c75_.gKids)).set ((b68_).toNat) (GCell.mk c76_.gKind c76_.gName c76_.gNum (wr.i64 ((wr.i64 ((wr.i64 (b67_ + 1)) + 1)) + 1)) c76_.gKids))))])]⟩ _ (by kernel_rfl) (.cons (ix_obl (c := GCell.c) GCell.c_len h68) (.cons (mod_obl (off := 3) (new := [.int .i64 (wr.i64 ((wr.i64 ((wr.i64 (b67_ + 1)) + 1)) + 1))]) (c := GCell.c) (GCell.c_eq c76_) (GCell.c_eq (GCell.mk c76_.gKind c76_.gName c76_.gNum (wr.i64 ((wr.i64 ((wr.i64 (b67_ + 1)) + 1)) + 1)) c76_.gKids)) (at'_spec h68).2 rfl) (.cons (st_obl (sz := 5) (off := 3) (s := 1) (c := GCell.c) (GCell.c_eq c76_) (at'_spec h68).2 rfl (Nat.le_of_ble_eq_true rfl)) .nil))) ?_
        refine Wc.seq ?_
        refine Wc.region [] [] [0, 1, 5] [] [0] ⟨[(0, (.v (.slx), [(0, .al (.a 0 0) [])])), (1, (.v (.int .i64 (wr.i64 ((wr.i64 ((wr.i64 ((wr.i64 (b67_ + 1)) + 1)) + 1)) + 1))), [])), (5, (.v (.int .i64 b68_), []))], [], [(0, [(0, .ex 1000000007 true (List.map GCell.c ((((d69_.set ((b68_).toNat) (GCell.mk b67_ c72_.gName c72_.gNum c72_.gTo c72_.gKids)).set ((b68_).toNat) (GCell.mk c74_.gKind j73_ c74_.gNum c74_.gTo c74_.gKids)).set ((b68_).toNat) (GCell.mk c75_.gKind c75_.gName (wr.i64 ((wr.i64 (b67_ + 1)) + 1)) c75_.gTo c75_.gKids)).set ((b68_).toNat) (GCell.mk c76_.gKind c76_.gName c76_.gNum (wr.i64 ((wr.i64 ((wr.i64 (b67_ + 1)) + 1)) + 1)) c76_.gKids))))])]⟩ _ (by kernel_rfl) .nil ?_
        obtain ⟨c77_, h69, h62⟩ := obind h62
        obtain ⟨l78_, h70, h62⟩ := obind h62
        refine Wc.region [{}, {}, {}, {}, { v := some (.slx) }, {}, { c := some (List.map GCell.c (((((d69_.set ((b68_).toNat) (GCell.mk b67_ c72_.gName c72_.gNum c72_.gTo c72_.gKids)).set ((b68_).toNat) (GCell.mk c74_.gKind j73_ c74_.gNum c74_.gTo c74_.gKids)).set ((b68_).toNat) (GCell.mk c75_.gKind c75_.gName (wr.i64 ((wr.i64 (b67_ + 1)) + 1)) c75_.gTo c75_.gKids)).set ((b68_).toNat) (GCell.mk c76_.gKind c76_.gName c76_.gNum (wr.i64 ((wr.i64 ((wr.i64 (b67_ + 1)) + 1)) + 1)) c76_.gKids)).set ((b68_).toNat) (GCell.mk c77_.gKind c77_.gName c77_.gNum c77_.gTo l78_.1))), io := [0], r := some (.v (.int .i64 l78_.2) []), outs := [(0, .v .undef [(0, .ex 1000000007 true (List.map cI.i64 l78_.1))])], ioc := [(0, .ex 1000000007 true (List.map cI.i64 c77_.gKids))] }] [] [0, 1, 5] [] [0] ⟨[(0, (.v (.slx), [(0, .al (.a 0 0) [])])), (1, (.v (.int .i64 l78_.2), [])), (5, (.v (.int .i64 b68_), []))], [], [(0, [(0, .ex 1000000007 true (List.map GCell.c (((((d69_.set ((b68_).toNat) (GCell.mk b67_ c72_.gName c72_.gNum c72_.gTo c72_.gKids)).set ((b68_).toNat) (GCell.mk c74_.gKind j73_ c74_.gNum c74_.gTo c74_.gKids)).set ((b68_).toNat) (GCell.mk c75_.gKind c75_.gName (wr.i64 ((wr.i64 (b67_ + 1)) + 1)) c75_.gTo c75_.gKids)).set ((b68_).toNat) (GCell.mk c76_.gKind c76_.gName c76_.gNum (wr.i64 ((wr.i64 ((wr.i64 (b67_ + 1)) + 1)) + 1)) c76_.gKids)).set ((b68_).toNat) (GCell.mk c77_.gKind c77_.gName c77_.gNum c77_.gTo l78_.1))))])]⟩ _ (by kernel_rfl) (.cons (ix_obl (c := GCell.c) GCell.c_len h69) (.cons (el_oblD (sz := 5) (off := 4) (s := 1) (ag := false) (v := .slx) (c := GCell.c) (GCell.c_eq c77_) (at'_spec h69).2 rfl (Nat.le_of_ble_eq_true rfl) rfl) (.cons (own_obl (own := [(0, .al (.a 0 0) [(((b68_).toNat), 5, 4)])]) (p := .a 0 0) (m := (b68_).toNat) (sz := 5) (off := 4) (js := [0]) rfl) (.cons (seg_obl (sz := 5) (off := 4) (n := [.sl (List.map cI.i64 c77_.gKids)]) (c := GCell.c) (GCell.c_eq c77_) (at'_spec h69).2 rfl (Nat.le_of_ble_eq_true rfl) rfl) (.cons (mod_obl (off := 4) (new := [.sl (List.map cI.i64 l78_.1)]) (c := GCell.c) (GCell.c_eq c77_) (GCell.c_eq (GCell.mk c77_.gKind c77_.gName c77_.gNum c77_.gTo l78_.1)) (at'_spec h69).2 rfl) (.cons (FnO.any (args := [.io (.slx) [(0, .ex 1000000007 true (List.map cI.i64 c77_.gKids))], .v (.int .i64 (wr.i64 ((wr.i64 ((wr.i64 ((wr.i64 (b67_ + 1)) + 1)) + 1)) + 1))) []]) (claws_markIntS h70)) .nil)))))) ?_
        refine Wc.region [] [] [0, 1, 5] [] [0] ⟨[(0, (.v (.slx), [(0, .al (.a 0 0) [])])), (1, (.v (.int .i64 l78_.2), [])), (5, (.v (.int .i64 (wr.i64 (b68_ + 1))), []))], [], [(0, [(0, .ex 1000000007 true (List.map GCell.c (((((d69_.set ((b68_).toNat) (GCell.mk b67_ c72_.gName c72_.gNum c72_.gTo c72_.gKids)).set ((b68_).toNat) (GCell.mk c74_.gKind j73_ c74_.gNum c74_.gTo c74_.gKids)).set ((b68_).toNat) (GCell.mk c75_.gKind c75_.gName (wr.i64 ((wr.i64 (b67_ + 1)) + 1)) c75_.gTo c75_.gKids)).set ((b68_).toNat) (GCell.mk c76_.gKind c76_.gName c76_.gNum (wr.i64 ((wr.i64 ((wr.i64 (b67_ + 1)) + 1)) + 1)) c76_.gKids)).set ((b68_).toNat) (GCell.mk c77_.gKind c77_.gName c77_.gNum c77_.gTo l78_.1))))])]⟩ _ (by kernel_rfl) .nil ?_
        exact ⟨_, Nat.lt_succ_self _, _, _, _, rfl, h62⟩
      · refine Wc.condF h63 (by kernel_rfl) ?_
        refine Wc.fix (st' := ⟨[(1, (.v (.int .i64 b67_), []))], [], [(0, [(0, .ex 1000000007 true (List.map GCell.c d69_))])]⟩) [] [1] [] [0] (by kernel_rfl) ?_
        refine Wc.exit ?_
        obtain rfl := Option.some.inj h62
        exact ⟨_, _, rfl, rfl⟩
  · rintro st ⟨b70_, d71_, rfl, rfl⟩
    refine Wc.seq ?_
    refine Wc.region [] [] [4] [] [0] ⟨[(4, (.v (.int .i64 b70_), []))], [], [(0, [(0, .ex 1000000007 true (List.map GCell.c d71_))])]⟩ _ (by kernel_rfl) .nil ?_
    refine Wc.ret ?_
    obtain rfl := Option.some.inj h
    exact ⟨.inl rfl, by kernel_rfl, by kernel_rfl⟩

/-- laws.markHeap -/
def plaws_markHeap (k : Nat) (e79_ : GHeap) (b80_ : Int) : Option (GHeap × Int) :=
  (plaws_markCellS k e79_.gCells b80_).bind fun m81_ =>
  (plaws_markIntS k e79_.gTrail m81_.2).bind fun l82_ =>
  some (GHeap.mk m81_.1 l82_.1, l82_.2)
theorem claws_markHeap {k : Nat} {e79_ : GHeap} {b80_ : Int} {r : GHeap × Int} (h : plaws_markHeap k e79_ b80_ = some r) : FnO Try.prog 41 [.io (.agg [.slx, .slx]) [(0, .ex 1000000007 true (List.map GCell.c e79_.gCells)), (1, .ex 1000000007 true (List.map cI.i64 e79_.gTrail))], .v (.int .i64 b80_) []] (.v (.int .i64 r.2) []) [(0, .v .undef [(0, .ex 1000000007 true (List.map GCell.c r.1.gCells)), (1, .ex 1000000007 true (List.map cI.i64 r.1.gTrail))])] := by
  refine FnO.of Try.func41 (rfl : Try.f41.body = some _) (Nat.le_of_ble_eq_true (by kernel_rfl)) (Nat.le_of_ble_eq_true (by kernel_rfl)) ?_
  intro w0 X0 Fin pv0 pb
  unfold plaws_markHeap at h
  refine Wc.seq ?_
  refine Wc.region [] [] [1, 2] [2] [0] ⟨[(1, (.v (.int .i64 b80_), [])), (2, (.ptr 2 0, []))], [(2, .cells [.slx, .slx] [(0, .al (.a 0 0) []), (1, .al (.a 0 1) [])])], [(0, [(0, .ex 1000000007 true (List.map GCell.c e79_.gCells)), (1, .ex 1000000007 true (List.map cI.i64 e79_.gTrail))])]⟩ _ (by kernel_rfl) .nil ?_
  refine Wc.seq ?_
  obtain ⟨m81_, h71, h⟩ := obind h
  refine Wc.region [{}, {}, {}, { io := [0], r := some (.v (.int .i64 m81_.2) []), outs := [(0, .v .undef [(0, .ex 1000000007 true (List.map GCell.c m81_.1))])] }] [] [1, 2] [2] [0] ⟨[(1, (.v (.int .i64 m81_.2), [])), (2, (.ptr 2 0, []))], [(2, .cells [.slx, .slx] [(0, .al (.a 0 0) []), (1, .al (.a 0 1) [])])], [(0, [(0, .ex 1000000007 true (List.map GCell.c m81_.1)), (1, .ex 1000000007 true (List.map cI.i64 e79_.gTrail))])]⟩ _ (by kernel_rfl) (.cons (FnO.any (args := [.io (.slx) [(0, .ex 1000000007 true (List.map GCell.c e79_.gCells))], .v (.int .i64 b80_) []]) (claws_markCellS h71)) .nil) ?_
  refine Wc.seq ?_
  obtain ⟨l82_, h72, h⟩ := obind h
  refine Wc.region [{}, {}, {}, { io := [0], r := some (.v (.int .i64 l82_.2) []), outs := [(0, .v .undef [(0, .ex 1000000007 true (List.map cI.i64 l82_.1))])] }] [] [1] [] [0] ⟨[(1, (.v (.int .i64 l82_.2), []))], [], [(0, [(0, .ex 1000000007 true (List.map GCell.c m81_.1)), (1, .ex 1000000007 true (List.map cI.i64 l82_.1))])]⟩ _ (by kernel_rfl) (.cons (FnO.any (args := [.io (.slx) [(0, .ex 1000000007 true (List.map cI.i64 e79_.gTrail))], .v (.int .i64 m81_.2) []]) (claws_markIntS h72)) .nil) ?_
  refine Wc.seq ?_
  refine Wc.region [] [] [4] [] [0] ⟨[(4, (.v (.int .i64 l82_.2), []))], [], [(0, [(0, .ex 1000000007 true (List.map GCell.c m81_.1)), (1, .ex 1000000007 true (List.map cI.i64 l82_.1))])]⟩ _ (by kernel_rfl) .nil ?_
  refine Wc.ret ?_
  obtain rfl := Option.some.inj h
  exact ⟨.inl rfl, by kernel_rfl, by kernel_rfl⟩

def plaws_heldIntS_L1 (k : Nat) (a83_ : List Int) : Nat → Int → Int → Option (Out Int Int)
  | 0, _, _ => none
  | m + 1, b85_, b86_ =>
    if (decide (b86_ < (a83_.length : Int))) = true then
      (at' a83_ b86_).bind fun b88_ =>
      if (b88_ != b85_) = true then
        some (.ret (-1))
      else
        plaws_heldIntS_L1 k a83_ m (wr.i64 (b85_ + 1)) (wr.i64 (b86_ + 1))
    else
      some (.done b85_)
/-- laws.heldIntS -/
def plaws_heldIntS (k : Nat) (a83_ : List Int) (b84_ : Int) : Option Int :=
  (plaws_heldIntS_L1 k a83_ k b84_ 0).bind fun out1 => match out1 with
  | .ret r => some r
  | .done b87_ =>
    some b87_
theorem claws_heldIntS {k : Nat} {a83_ : List Int} {b84_ : Int} {r : Int} (h : plaws_heldIntS k a83_ b84_ = some r) : FnO Try.prog 35 [.v (.sl (List.map cI.i64 a83_)) [], .v (.int .i64 b84_) []] (.v (.int .i64 r) []) [] := by
  refine FnO.of Try.func35 (rfl : Try.f35.body = some _) (Nat.le_of_ble_eq_true (by kernel_rfl)) (Nat.le_of_ble_eq_true (by kernel_rfl)) ?_
  intro w0 X0 Fin pv0 pb
  unfold plaws_heldIntS at h
  refine Wc.seq ?_
  refine Wc.region [] [] [0, 1] [] [] ⟨[(0, (.v (.sl (List.map cI.i64 a83_)), [])), (1, (.v (.int .i64 b84_), []))], [], []⟩ _ (by kernel_rfl) .nil ?_
  refine Wc.seq ?_
  refine Wc.seq ?_
  refine Wc.region [] [] [0, 1, 5] [] [] ⟨[(0, (.v (.sl (List.map cI.i64 a83_)), [])), (1, (.v (.int .i64 b84_), [])), (5, (.v (.int .i64 0), []))], [], []⟩ _ (by kernel_rfl) .nil ?_
  obtain ⟨out1, h73, h⟩ := obind h
  refine Wc.lastJ (fun st => ∃ (b87_ : Int), out1 = .done b87_ ∧ st = ⟨[(1, (.v (.int .i64 b87_), []))], [], []⟩) ?_ ?_
  · refine Wc.block ?_
    refine Wc.loop (fun m st => ∃ (b85_ : Int) (b86_ : Int), st = ⟨[(0, (.v (.sl (List.map cI.i64 a83_)), [])), (1, (.v (.int .i64 b85_), [])), (5, (.v (.int .i64 b86_), []))], [], []⟩ ∧ plaws_heldIntS_L1 k a83_ m b85_ b86_ = some out1) ?_ k ⟨_, _, rfl, h73⟩
    rintro m st ⟨b85_, b86_, rfl, h73⟩
    cases m with
    | zero => exact (onone h73).elim
    | succ m =>
      refine Wc.seq ?_
      refine Wc.seq ?_
      refine Wc.region [{}, {}, { v := some (.int .i64 (a83_.length : Int)) }] [] [0, 1, 5, 9] [] [] ⟨[(0, (.v (.sl (List.map cI.i64 a83_)), [])), (1, (.v (.int .i64 b85_), [])), (5, (.v (.int .i64 b86_), [])), (9, (.v (.bool (decide (b86_ < (a83_.length : Int)))), []))], [], []⟩ _ (by kernel_rfl) (.cons (len_obl cI.i64 a83_) .nil) ?_
      rcases oif h73 with ⟨h74, h73⟩ | ⟨h74, h73⟩
      · refine Wc.condT h74 (by kernel_rfl) ?_
        refine Wc.fix (st' := ⟨[(0, (.v (.sl (List.map cI.i64 a83_)), [])), (1, (.v (.int .i64 b85_), [])), (5, (.v (.int .i64 b86_), []))], [], []⟩) [] [0, 1, 5] [] [] (by kernel_rfl) ?_
        refine Wc.skip ?_
        refine Wc.seq ?_
        refine Wc.block ?_
        refine Wc.seq ?_
        refine Wc.seq ?_
        obtain ⟨b88_, h75, h73⟩ := obind h73
        refine Wc.region [{}, {}, { v := some (.vptr [.int .i64 b88_]) }] [] [0, 1, 5, 17] [] [] ⟨[(0, (.v (.sl (List.map cI.i64 a83_)), [])), (1, (.v (.int .i64 b85_), [])), (5, (.v (.int .i64 b86_), [])), (17, (.v (.bool (b88_ != b85_)), []))], [], []⟩ _ (by kernel_rfl) (.cons (at_obl (c := cI.i64) rfl cI.i64_len h75) (.cons (len_ok 1 [.int .i64 b88_]) .nil)) ?_
        rcases oif h73 with ⟨h76, h73⟩ | ⟨h76, h73⟩
        · refine Wc.condT h76 (by kernel_rfl) ?_
          refine Wc.seq ?_
          refine Wc.region [] [] [4] [] [] ⟨[(4, (.v (.int .i64 (-1)), []))], [], []⟩ _ (by kernel_rfl) .nil ?_
          refine Wc.ret ?_
          obtain rfl := Option.some.inj h73
          obtain rfl := Option.some.inj h
          exact ⟨.inl rfl, by kernel_rfl, by kernel_rfl⟩
        · refine Wc.condF h76 (by kernel_rfl) ?_
          refine Wc.fix (st' := ⟨[(0, (.v (.sl (List.map cI.i64 a83_)), [])), (1, (.v (.int .i64 b85_), [])), (5, (.v (.int .i64 b86_), []))], [], []⟩) [] [0, 1, 5] [] [] (by kernel_rfl) ?_
          refine Wc.skip ?_
          refine Wc.region [] [] [0, 1, 5] [] [] ⟨[(0, (.v (.sl (List.map cI.i64 a83_)), [])), (1, (.v (.int .i64 (wr.i64 (b85_ + 1))), [])), (5, (.v (.int .i64 b86_), []))], [], []⟩ _ (by kernel_rfl) .nil ?_
          refine Wc.region [] [] [0, 1, 5] [] [] ⟨[(0, (.v (.sl (List.map cI.i64 a83_)), [])), (1, (.v (.int .i64 (wr.i64 (b85_ + 1))), [])), (5, (.v (.int .i64 (wr.i64 (b86_ + 1))), []))], [], []⟩ _ (by kernel_rfl) .nil ?_
          exact ⟨_, Nat.lt_succ_self _, _, _, rfl, h73⟩
      · refine Wc.condF h74 (by kernel_rfl) ?_
        refine Wc.fix (st' := ⟨[(1, (.v (.int .i64 b85_), []))], [], []⟩) [] [1] [] [] (by kernel_rfl) ?_
        refine Wc.exit ?_
        obtain rfl := Option.some.inj h73
        exact ⟨_, rfl, rfl⟩
  · rintro st ⟨b87_, rfl, rfl⟩
    refine Wc.seq ?_
    refine Wc.region [] [] [4] [] [] ⟨[(4, (.v (.int .i64 b87_), []))], [], []⟩ _ (by kernel_rfl) .nil ?_
    refine Wc.ret ?_
    obtain rfl := Option.some.inj h
    exact ⟨.inl rfl, by kernel_rfl, by kernel_rfl⟩

def plaws_heldCellS_L1 (k : Nat) (d89_ : List GCell) : Nat → Int → Int → Option (Out Int Int)
  | 0, _, _ => none
  | m + 1, b91_, b92_ =>
    if (decide (b92_ < (d89_.length : Int))) = true then
      (at' d89_ b92_).bind fun c94_ =>
      if (c94_.gKind != b91_) = true then
        some (.ret (-1))
      else
        (at' d89_ b92_).bind fun c95_ =>
        (plaws_markText k (wr.i64 (b91_ + 1))).bind fun j96_ =>
        if (!(sEq c95_.gName j96_)) = true then
          some (.ret (-1))
        else
          (at' d89_ b92_).bind fun c97_ =>
          if (c97_.gNum != (wr.i64 ((wr.i64 (b91_ + 1)) + 1))) = true then
            some (.ret (-1))
          else
            (at' d89_ b92_).bind fun c98_ =>
            if (c98_.gTo != (wr.i64 ((wr.i64 ((wr.i64 (b91_ + 1)) + 1)) + 1))) = true then
              some (.ret (-1))
            else
              (at' d89_ b92_).bind fun c99_ =>
              (plaws_heldIntS k c99_.gKids (wr.i64 ((wr.i64 ((wr.i64 ((wr.i64 (b91_ + 1)) + 1)) + 1)) + 1))).bind fun b100_ =>
              if (decide (b100_ < 0)) = true then
                some (.ret (-1))
              else
                plaws_heldCellS_L1 k d89_ m b100_ (wr.i64 (b92_ + 1))
    else
      some (.done b91_)
/-- laws.heldCellS -/
def plaws_heldCellS (k : Nat) (d89_ : List GCell) (b90_ : Int) : Option Int :=
  (plaws_heldCellS_L1 k d89_ k b90_ 0).bind fun out1 => match out1 with
  | .ret r => some r
  | .done b93_ =>
    some b93_
theorem claws_heldCellS {k : Nat} {d89_ : List GCell} {b90_ : Int} {r : Int} (h : plaws_heldCellS k d89_ b90_ = some r) : FnO Try.prog 85 [.v (.sl (List.map GCell.c d89_)) [], .v (.int .i64 b90_) []] (.v (.int .i64 r) []) [] := by
  refine FnO.of Try.func85 (rfl : Try.f85.body = some _) (Nat.le_of_ble_eq_true (by kernel_rfl)) (Nat.le_of_ble_eq_true (by kernel_rfl)) ?_
  intro w0 X0 Fin pv0 pb
  unfold plaws_heldCellS at h
  refine Wc.seq ?_
  refine Wc.region [] [] [0, 1] [] [] ⟨[(0, (.v (.sl (List.map GCell.c d89_)), [])), (1, (.v (.int .i64 b90_), []))], [], []⟩ _ (by kernel_rfl) .nil ?_
  refine Wc.seq ?_
  refine Wc.seq ?_
  refine Wc.region [] [] [0, 1, 5] [] [] ⟨[(0, (.v (.sl (List.map GCell.c d89_)), [])), (1, (.v (.int .i64 b90_), [])), (5, (.v (.int .i64 0), []))], [], []⟩ _ (by kernel_rfl) .nil ?_
  obtain ⟨out1, h77, h⟩ := obind h
  refine Wc.lastJ (fun st => ∃ (b93_ : Int), out1 = .done b93_ ∧ st = ⟨[(1, (.v (.int .i64 b93_), []))], [], []⟩) ?_ ?_
  · refine Wc.block ?_
    refine Wc.loop (fun m st => ∃ (b91_ : Int) (b92_ : Int), st = ⟨[(0, (.v (.sl (List.map GCell.c d89_)), [])), (1, (.v (.int .i64 b91_), [])), (5, (.v (.int .i64 b92_), []))], [], []⟩ ∧ plaws_heldCellS_L1 k d89_ m b91_ b92_ = some out1) ?_ k ⟨_, _, rfl, h77⟩
    rintro m st ⟨b91_, b92_, rfl, h77⟩
    cases m with
    | zero => exact (onone h77).elim
    | succ m =>
      refine Wc.seq ?_
      refine Wc.seq ?_
      refine Wc.region [{}, {}, { v := some (.int .i64 (d89_.length : Int)) }] [] [0, 1, 5, 9] [] [] ⟨[(0, (.v (.sl (List.map GCell.c d89_)), [])), (1, (.v (.int .i64 b91_), [])), (5, (.v (.int .i64 b92_), [])), (9, (.v (.bool (decide (b92_ < (d89_.length : Int)))), []))], [], []⟩ _ (by kernel_rfl) (.cons (len_obl GCell.c d89_) .nil) ?_
      rcases oif h77 with ⟨h78, h77⟩ | ⟨h78, h77⟩
      · refine Wc.condT h78 (by kernel_rfl) ?_
        refine Wc.fix (st' := ⟨[(0, (.v (.sl (List.map GCell.c d89_)), [])), (1, (.v (.int .i64 b91_), [])), (5, (.v (.int .i64 b92_), []))], [], []⟩) [] [0, 1, 5] [] [] (by kernel_rfl) ?_
        refine Wc.skip ?_
        refine Wc.seq ?_
        refine Wc.block ?_
        refine Wc.seq ?_
        refine Wc.seq ?_
        obtain ⟨c94_, h79, h77⟩ := obind h77
        refine Wc.region [{}, {}, { v := some (.vptr [.int .i64 c94_.gKind, .str c94_.gName, .int .i64 c94_.gNum, .int .i64 c94_.gTo, .sl (List.map cI.i64 c94_.gKids)]) }] [] [0, 1, 5, 18] [] [] ⟨[(0, (.v (.sl (List.map GCell.c d89_)), [])), (1, (.v (.int .i64 b91_), [])), (5, (.v (.int .i64 b92_), [])), (18, (.v (.bool (c94_.gKind != b91_)), []))], [], []⟩ _ (by kernel_rfl) (.cons (at_obl (c := GCell.c) (GCell.c_eq c94_) GCell.c_len h79) (.cons (len_ok 1 [.int .i64 c94_.gKind, .str c94_.gName, .int .i64 c94_.gNum, .int .i64 c94_.gTo, .sl (List.map cI.i64 c94_.gKids)]) .nil)) ?_
        rcases oif h77 with ⟨h80, h77⟩ | ⟨h80, h77⟩
        · refine Wc.condT h80 (by kernel_rfl) ?_
          refine Wc.seq ?_
          refine Wc.region [] [] [4] [] [] ⟨[(4, (.v (.int .i64 (-1)), []))], [], []⟩ _ (by kernel_rfl) .nil ?_
          refine Wc.ret ?_
          obtain rfl := Option.some.inj h77
          obtain rfl := Option.some.inj h
          exact ⟨.inl rfl, by kernel_rfl, by kernel_rfl⟩
        · refine Wc.condF h80 (by kernel_rfl) ?_
          refine Wc.fix (st' := ⟨[(0, (.v (.sl (List.map GCell.c d89_)), [])), (1, (.v (.int .i64 b91_), [])), (5, (.v (.int .i64 b92_), []))], [], []⟩) [] [0, 1, 5] [] [] (by kernel_rfl) ?_
          refine Wc.skip ?_
          refine Wc.seq ?_
          refine Wc.region [] [] [0, 1, 5] [] [] ⟨[(0, (.v (.sl (List.map GCell.c d89_)), [])), (1, (.v (.int .i64 (wr.i64 (b91_ + 1))), [])), (5, (.v (.int .i64 b92_), []))], [], []⟩ _ (by kernel_rfl) .nil ?_
          refine Wc.seq ?_
          refine Wc.seq ?_
          obtain ⟨c95_, h81, h77⟩ := obind h77
          obtain ⟨j96_, h82, h77⟩ := obind h77
          refine Wc.draw hmix [{}, {}, { v := some (.vptr [.int .i64 c95_.gKind, .str c95_.gName, .int .i64 c95_.gNum, .int .i64 c95_.gTo, .sl (List.map cI.i64 c95_.gKids)]) }, {}, {}, {}, { r := some (.v (.str j96_) []) }] [] [0, 1, 5, 28] [] [] ⟨[(0, (.v (.sl (List.map GCell.c d89_)), [])), (1, (.v (.int .i64 (wr.i64 (b91_ + 1))), [])), (5, (.v (.int .i64 b92_), [])), (28, (.v (.bool (!(sEq c95_.gName j96_))), []))], [], []⟩ _ (by kernel_rfl) (fun X => by kernel_rfl) (.cons (at_obl (c := GCell.c) (GCell.c_eq c95_) GCell.c_len h81) (.cons (len_ok 1 [.str c95_.gName, .int .i64 c95_.gNum, .int .i64 c95_.gTo, .sl (List.map cI.i64 c95_.gKids)]) (.cons (claws_markText h82) .nil))) ?_
          rcases oif h77 with ⟨h83, h77⟩ | ⟨h83, h77⟩
          · refine Wc.condT h83 (by kernel_rfl) ?_
            refine Wc.seq ?_
            refine Wc.region [] [] [4] [] [] ⟨[(4, (.v (.int .i64 (-1)), []))], [], []⟩ _ (by kernel_rfl) .nil ?_
            refine Wc.ret ?_
            obtain rfl := Option.some.inj h77
            obtain rfl := Option.some.inj h
            exact ⟨.inl rfl, by kernel_rfl, by kernel_rfl⟩
          · refine Wc.condF h83 (by kernel_rfl) ?_
            refine Wc.fix (st' := ⟨[(0, (.v (.sl (List.map GCell.c d89_)), [])), (1, (.v (.int .i64 (wr.i64 (b91_ + 1))), [])), (5, (.v (.int .i64 b92_), []))], [], []⟩) [] [0, 1, 5] [] [] (by kernel_rfl) ?_
            refine Wc.skip ?_
            refine Wc.seq ?_
            refine Wc.region [] [] [0, 1, 5] [] [] ⟨[(0, (.v (.sl (List.map GCell.c d89_)), [])), (1, (.v (.int .i64 (wr.i64 ((wr.i64 (b91_ + 1)) + 1))), [])), (5, (.v (.int .i64 b92_), []))], [], []⟩ _ (by kernel_rfl) .nil ?_
            refine Wc.seq ?_
            refine Wc.seq ?_
            obtain ⟨c97_, h84, h77⟩ := obind h77
            refine Wc.region [{}, {}, { v := some (.vptr [.int .i64 c97_.gKind, .str c97_.gName, .int .i64 c97_.gNum, .int .i64 c97_.gTo, .sl (List.map cI.i64 c97_.gKids)]) }] [] [0, 1, 5, 37] [] [] ⟨[(0, (.v (.sl (List.map GCell.c d89_)), [])), (1, (.v (.int .i64 (wr.i64 ((wr.i64 (b91_ + 1)) + 1))), [])), (5, (.v (.int .i64 b92_), [])), (37, (.v (.bool (c97_.gNum != (wr.i64 ((wr.i64 (b91_ + 1)) + 1)))), []))], [], []⟩ _ (by kernel_rfl) (.cons (at_obl (c := GCell.c) (GCell.c_eq c97_) GCell.c_len h84) (.cons (len_ok 1 [.int .i64 c97_.gNum, .int .i64 c97_.gTo, .sl (List.map cI.i64 c97_.gKids)]) .nil)) ?_
            rcases oif h77 with ⟨h85, h77⟩ | ⟨h85, h77⟩
            · refine Wc.condT h85 (by kernel_rfl) ?_
              refine Wc.seq ?_
              refine Wc.region [] [] [4] [] [] ⟨[(4, (.v (.int .i64 (-1)), []))], [], []⟩ _ (by kernel_rfl) .nil ?_
              refine Wc.ret ?_
              obtain rfl := Option.some.inj h77
              obtain rfl := Option.some.inj h
              exact ⟨.inl rfl, by kernel_rfl, by kernel_rfl⟩
            · refine Wc.condF h85 (by kernel_rfl) ?_
              refine Wc.fix (st' := ⟨[(0, (.v (.sl (List.map GCell.c d89_)), [])), (1, (.v (.int .i64 (wr.i64 ((wr.i64 (b91_ + 1)) + 1))), [])), (5, (.v (.int .i64 b92_), []))], [], []⟩) [] [0, 1, 5] [] [] (by kernel_rfl) ?_
              refine Wc.skip ?_
              refine Wc.seq ?_
              refine Wc.region [] [] [0, 1, 5] [] [] ⟨[(0, (.v (.sl (List.map GCell.c d89_)), [])), (1, (.v (.int .i64 (wr.i64 ((wr.i64 ((wr.i64 (b91_ + 1)) + 1)) + 1))), [])), (5, (.v (.int .i64 b92_), []))], [], []⟩ _ (by kernel_rfl) .nil ?_
              refine Wc.seq ?_
              refine Wc.seq ?_
              obtain ⟨c98_, h86, h77⟩ := obind h77
              refine Wc.region [{}, {}, { v := some (.vptr [.int .i64 c98_.gKind, .str c98_.gName, .int .i64 c98_.gNum, .int .i64 c98_.gTo, .sl (List.map cI.i64 c98_.gKids)]) }] [] [0, 1, 5, 46] [] [] ⟨[(0, (.v (.sl (List.map GCell.c d89_)), [])), (1, (.v (.int .i64 (wr.i64 ((wr.i64 ((wr.i64 (b91_ + 1)) + 1)) + 1))), [])), (5, (.v (.int .i64 b92_), [])), (46, (.v (.bool (c98_.gTo != (wr.i64 ((wr.i64 ((wr.i64 (b91_ + 1)) + 1)) + 1)))), []))], [], []⟩ _ (by kernel_rfl) (.cons (at_obl (c := GCell.c) (GCell.c_eq c98_) GCell.c_len h86) (.cons (len_ok 1 [.int .i64 c98_.gTo, .sl (List.map cI.i64 c98_.gKids)]) .nil)) ?_
              rcases oif h77 with ⟨h87, h77⟩ | ⟨h87, h77⟩
              · refine Wc.condT h87 (by kernel_rfl) ?_
                refine Wc.seq ?_
                refine Wc.region [] [] [4] [] [] ⟨[(4, (.v (.int .i64 (-1)), []))], [], []⟩ _ (by kernel_rfl) .nil ?_
                refine Wc.ret ?_
                obtain rfl := Option.some.inj h77
                obtain rfl := Option.some.inj h
                exact ⟨.inl rfl, by kernel_rfl, by kernel_rfl⟩
              · refine Wc.condF h87 (by kernel_rfl) ?_
                refine Wc.fix (st' := ⟨[(0, (.v (.sl (List.map GCell.c d89_)), [])), (1, (.v (.int .i64 (wr.i64 ((wr.i64 ((wr.i64 (b91_ + 1)) + 1)) + 1))), [])), (5, (.v (.int .i64 b92_), []))], [], []⟩) [] [0, 1, 5] [] [] (by kernel_rfl) ?_
                refine Wc.skip ?_
                refine Wc.seq ?_
                refine Wc.region [] [] [0, 1, 5] [] [] ⟨[(0, (.v (.sl (List.map GCell.c d89_)), [])), (1, (.v (.int .i64 (wr.i64 ((wr.i64 ((wr.i64 ((wr.i64 (b91_ + 1)) + 1)) + 1)) + 1))), [])), (5, (.v (.int .i64 b92_), []))], [], []⟩ _ (by kernel_rfl) .nil ?_
                refine Wc.seq ?_
                obtain ⟨c99_, h88, h77⟩ := obind h77
                obtain ⟨b100_, h89, h77⟩ := obind h77
                refine Wc.region [{}, {}, { v := some (.vptr [.int .i64 c99_.gKind, .str c99_.gName, .int .i64 c99_.gNum, .int .i64 c99_.gTo, .sl (List.map cI.i64 c99_.gKids)]) }, {}, {}, {}, { r := some (.v (.int .i64 b100_) []) }] [] [0, 1, 5] [] [] ⟨[(0, (.v (.sl (List.map GCell.c d89_)), [])), (1, (.v (.int .i64 b100_), [])), (5, (.v (.int .i64 b92_), []))], [], []⟩ _ (by kernel_rfl) (.cons (at_obl (c := GCell.c) (GCell.c_eq c99_) GCell.c_len h88) (.cons (len_ok 1 [.sl (List.map cI.i64 c99_.gKids)]) (.cons (claws_heldIntS h89) .nil))) ?_
                refine Wc.seq ?_
                refine Wc.region [] [] [0, 1, 5, 57] [] [] ⟨[(0, (.v (.sl (List.map GCell.c d89_)), [])), (1, (.v (.int .i64 b100_), [])), (5, (.v (.int .i64 b92_), [])), (57, (.v (.bool (decide (b100_ < 0))), []))], [], []⟩ _ (by kernel_rfl) .nil ?_
                rcases oif h77 with ⟨h90, h77⟩ | ⟨h90, h77⟩
                · refine Wc.condT h90 (by kernel_rfl) ?_
                  refine Wc.seq ?_
                  refine Wc.region [] [] [4] [] [] ⟨[(4, (.v (.int .i64 (-1)), []))], [], []⟩ _ (by kernel_rfl) .nil ?_
                  refine Wc.ret ?_
                  obtain rfl := Option.some.inj h77
                  obtain rfl := Option.some.inj h
                  exact ⟨.inl rfl, by kernel_rfl, by kernel_rfl⟩
                · refine Wc.condF h90 (by kernel_rfl) ?_
                  refine Wc.fix (st' := ⟨[(0, (.v (.sl (List.map GCell.c d89_)), [])), (1, (.v (.int .i64 b100_), [])), (5, (.v (.int .i64 b92_), []))], [], []⟩) [] [0, 1, 5] [] [] (by kernel_rfl) ?_
                  refine Wc.skip ?_
                  refine Wc.region [] [] [0, 1, 5] [] [] ⟨[(0, (.v (.sl (List.map GCell.c d89_)), [])), (1, (.v (.int .i64 b100_), [])), (5, (.v (.int .i64 (wr.i64 (b92_ + 1))), []))], [], []⟩ _ (by kernel_rfl) .nil ?_
                  exact ⟨_, Nat.lt_succ_self _, _, _, rfl, h77⟩
      · refine Wc.condF h78 (by kernel_rfl) ?_
        refine Wc.fix (st' := ⟨[(1, (.v (.int .i64 b91_), []))], [], []⟩) [] [1] [] [] (by kernel_rfl) ?_
        refine Wc.exit ?_
        obtain rfl := Option.some.inj h77
        exact ⟨_, rfl, rfl⟩
  · rintro st ⟨b93_, rfl, rfl⟩
    refine Wc.seq ?_
    refine Wc.region [] [] [4] [] [] ⟨[(4, (.v (.int .i64 b93_), []))], [], []⟩ _ (by kernel_rfl) .nil ?_
    refine Wc.ret ?_
    obtain rfl := Option.some.inj h
    exact ⟨.inl rfl, by kernel_rfl, by kernel_rfl⟩

/-- laws.heldHeap -/
def plaws_heldHeap (k : Nat) (e101_ : GHeap) (b102_ : Int) : Option Int :=
  (plaws_heldCellS k e101_.gCells b102_).bind fun b103_ =>
  if (decide (b103_ < 0)) = true then
    some (-1)
  else
    (plaws_heldIntS k e101_.gTrail b103_).bind fun b104_ =>
    if (decide (b104_ < 0)) = true then
      some (-1)
    else
      some b104_
theorem claws_heldHeap {k : Nat} {e101_ : GHeap} {b102_ : Int} {r : Int} (h : plaws_heldHeap k e101_ b102_ = some r) : FnO Try.prog 42 [.v (.agg [.sl (List.map GCell.c e101_.gCells), .sl (List.map cI.i64 e101_.gTrail)]) [], .v (.int .i64 b102_) []] (.v (.int .i64 r) []) [] := by
  refine FnO.of Try.func42 (rfl : Try.f42.body = some _) (Nat.le_of_ble_eq_true (by kernel_rfl)) (Nat.le_of_ble_eq_true (by kernel_rfl)) ?_
  intro w0 X0 Fin pv0 pb
  unfold plaws_heldHeap at h
  refine Wc.seq ?_
  refine Wc.region [] [] [1, 2] [2] [] ⟨[(1, (.v (.int .i64 b102_), [])), (2, (.ptr 2 0, []))], [(2, .cells [.sl (List.map GCell.c e101_.gCells), .sl (List.map cI.i64 e101_.gTrail)] [])], []⟩ _ (by kernel_rfl) .nil ?_
  refine Wc.seq ?_
  obtain ⟨b103_, h91, h⟩ := obind h
  refine Wc.region [{}, {}, {}, { r := some (.v (.int .i64 b103_) []) }] [] [1, 2] [2] [] ⟨[(1, (.v (.int .i64 b103_), [])), (2, (.ptr 2 0, []))], [(2, .cells [.sl (List.map GCell.c e101_.gCells), .sl (List.map cI.i64 e101_.gTrail)] [])], []⟩ _ (by kernel_rfl) (.cons (claws_heldCellS h91) .nil) ?_
  refine Wc.seq ?_
  refine Wc.seq ?_
  refine Wc.region [] [] [1, 2, 10] [2] [] ⟨[(1, (.v (.int .i64 b103_), [])), (2, (.ptr 2 0, [])), (10, (.v (.bool (decide (b103_ < 0))), []))], [(2, .cells [.sl (List.map GCell.c e101_.gCells), .sl (List.map cI.i64 e101_.gTrail)] [])], []⟩ _ (by kernel_rfl) .nil ?_
  rcases oif h with ⟨h92, h⟩ | ⟨h92, h⟩
  · refine Wc.condT h92 (by kernel_rfl) ?_
    refine Wc.seq ?_
    refine Wc.region [] [] [4] [] [] ⟨[(4, (.v (.int .i64 (-1)), []))], [], []⟩ _ (by kernel_rfl) .nil ?_
    refine Wc.ret ?_
    obtain rfl := Option.some.inj h
    exact ⟨.inl rfl, by kernel_rfl, by kernel_rfl⟩
  · refine Wc.condF h92 (by kernel_rfl) ?_
    refine Wc.fix (st' := ⟨[(1, (.v (.int .i64 b103_), [])), (2, (.ptr 2 0, []))], [(2, .cells [.sl (List.map GCell.c e101_.gCells), .sl (List.map cI.i64 e101_.gTrail)] [])], []⟩) [] [1, 2] [2] [] (by kernel_rfl) ?_
    refine Wc.skip ?_
    refine Wc.seq ?_
    obtain ⟨b104_, h93, h⟩ := obind h
    refine Wc.region [{}, {}, {}, { r := some (.v (.int .i64 b104_) []) }] [] [1] [] [] ⟨[(1, (.v (.int .i64 b104_), []))], [], []⟩ _ (by kernel_rfl) (.cons (claws_heldIntS h93) .nil) ?_
    refine Wc.seq ?_
    refine Wc.seq ?_
    refine Wc.region [] [] [1, 16] [] [] ⟨[(1, (.v (.int .i64 b104_), [])), (16, (.v (.bool (decide (b104_ < 0))), []))], [], []⟩ _ (by kernel_rfl) .nil ?_
    rcases oif h with ⟨h94, h⟩ | ⟨h94, h⟩
    · refine Wc.condT h94 (by kernel_rfl) ?_
      refine Wc.seq ?_
      refine Wc.region [] [] [4] [] [] ⟨[(4, (.v (.int .i64 (-1)), []))], [], []⟩ _ (by kernel_rfl) .nil ?_
      refine Wc.ret ?_
      obtain rfl := Option.some.inj h
      exact ⟨.inl rfl, by kernel_rfl, by kernel_rfl⟩
    · refine Wc.condF h94 (by kernel_rfl) ?_
      refine Wc.fix (st' := ⟨[(1, (.v (.int .i64 b104_), []))], [], []⟩) [] [1] [] [] (by kernel_rfl) ?_
      refine Wc.skip ?_
      refine Wc.seq ?_
      refine Wc.region [] [] [4] [] [] ⟨[(4, (.v (.int .i64 b104_), []))], [], []⟩ _ (by kernel_rfl) .nil ?_
      refine Wc.ret ?_
      obtain rfl := Option.some.inj h
      exact ⟨.inl rfl, by kernel_rfl, by kernel_rfl⟩

/-- spec.l34Ints -/
def pspec_l34Ints (k : Nat) (a106_ : List Int) : Option (List Int) :=
  if ([] : List Int).length + a106_.length ≤ 1073741824 then
    some a106_
  else none
theorem cspec_l34Ints {k : Nat} {a106_ : List Int} {r : (List Int)} (h : pspec_l34Ints k a106_ = some r) : FnO Try.prog 118 [.v (.sl (List.map cI.i64 a106_)) []] (.v (.sl (List.map cI.i64 r)) [(0, .app 3)]) [] := by
  refine FnO.of Try.func118 (rfl : Try.f118.body = some _) (Nat.le_of_ble_eq_true (by kernel_rfl)) (Nat.le_of_ble_eq_true (by kernel_rfl)) ?_
  intro w0 X0 Fin pv0 pb
  unfold pspec_l34Ints at h
  refine Wc.seq ?_
  refine Wc.region [] [] [0] [] [] ⟨[(0, (.v (.sl (List.map cI.i64 a106_)), []))], [], []⟩ _ (by kernel_rfl) .nil ?_
  refine Wc.seq ?_
  obtain ⟨h96, h⟩ := oguard h
  refine Wc.region [{ c := some (List.map cI.i64 []) }, {}, { c := some (List.map cI.i64 a106_), tk := [3] }, { tk := [5] }] [] [2] [] [] ⟨[(2, (.v (.sl (List.map cI.i64 a106_)), [(0, .app 3)]))], [], []⟩ _ (by kernel_rfl) (.cons (cl_nil cI.i64) (.cons (app_re0 cI.i64 a106_) (.cons (app_leaf (c := cI.i64) (ys := a106_) cI.i64_leaf) (.cons (app_obl2 (c := cI.i64) (xs := []) (ys := a106_) cI.i64_len h96) .nil)))) ?_
  refine Wc.ret ?_
  obtain rfl := Option.some.inj h
  exact ⟨.inl rfl, by kernel_rfl, by kernel_rfl⟩

/-- spec.l34Cell -/
def pspec_l34Cell (k : Nat) (c109_ : GCell) : Option GCell :=
  (pspec_l34Ints k c109_.gKids).bind fun f110_ =>
  some (GCell.mk c109_.gKind c109_.gName c109_.gNum c109_.gTo f110_)
theorem cspec_l34Cell {k : Nat} {c109_ : GCell} {r : GCell} (h : pspec_l34Cell k c109_ = some r) : FnO Try.prog 134 [.v (.agg [.int .i64 c109_.gKind, .str c109_.gName, .int .i64 c109_.gNum, .int .i64 c109_.gTo, .sl (List.map cI.i64 c109_.gKids)]) []] (.v (.agg [.int .i64 r.gKind, .str r.gName, .int .i64 r.gNum, .int .i64 r.gTo, .sl (List.map cI.i64 r.gKids)]) [(4, .app 3)]) [] := by
  refine FnO.of Try.func134 (rfl : Try.f134.body = some _) (Nat.le_of_ble_eq_true (by kernel_rfl)) (Nat.le_of_ble_eq_true (by kernel_rfl)) ?_
  intro w0 X0 Fin pv0 pb
  unfold pspec_l34Cell at h
  refine Wc.seq ?_
  refine Wc.region [] [] [1, 2] [1, 2] [] ⟨[(1, (.ptr 1 0, [])), (2, (.ptr 2 0, []))], [(1, .cells [.int .i64 c109_.gKind, .str c109_.gName, .int .i64 c109_.gNum, .int .i64 c109_.gTo, .sl (List.map cI.i64 c109_.gKids)] []), (2, .cells [.int .i64 0, .str (bs []), .int .i64 0, .int .i64 0, .sl (List.map cI.i64 [])] [(4, .app 3)])], []⟩ _ (by kernel_rfl) .nil ?_
  refine Wc.seq ?_
  obtain ⟨f110_, h98, h⟩ := obind h
  refine Wc.region [{}, {}, { r := some (.v (.sl (List.map cI.i64 f110_)) [(0, .app 3)]) }, {}, { tk := [5] }] [] [1, 2] [1, 2] [] ⟨[(1, (.ptr 1 0, [])), (2, (.ptr 2 0, []))], [(1, .cells [.int .i64 c109_.gKind, .str c109_.gName, .int .i64 c109_.gNum, .int .i64 c109_.gTo, .sl (List.map cI.i64 f110_)] [(4, .app 3)]), (2, .cells [.int .i64 0, .str (bs []), .int .i64 0, .int .i64 0, .sl (List.map cI.i64 [])] [(4, .app 3)])], []⟩ _ (by kernel_rfl) (.cons (cspec_l34Ints h98) .nil) ?_
  refine Wc.seq ?_
  refine Wc.region [{ md := 1 }, { tk := [7] }] [] [2] [2] [] ⟨[(2, (.ptr 2 0, []))], [(2, .cells [.int .i64 c109_.gKind, .str c109_.gName, .int .i64 c109_.gNum, .int .i64 c109_.gTo, .sl (List.map cI.i64 f110_)] [(4, .app 3)])], []⟩ _ (by kernel_rfl) .nil ?_
  refine Wc.ret ?_
  obtain rfl := Option.some.inj h
  exact ⟨.inl rfl, by kernel_rfl, by kernel_rfl⟩

def pspec_l34Cells_L1 (k : Nat) (d117_ : List GCell) : Nat → (List GCell) → Int → Option (Out (List GCell) (List GCell))
  | 0, _, _ => none
  | m + 1, d118_, b119_ =>
    if (decide (b119_ < (d117_.length : Int))) = true then
      (at' d117_ b119_).bind fun c121_ =>
      (pspec_l34Cell k c121_).bind fun c122_ =>
      if d118_.length + [c122_].length ≤ 1073741824 then
        pspec_l34Cells_L1 k d117_ m (d118_ ++ [c122_]) (wr.i64 (b119_ + 1))
      else none
    else
      some (.done d118_)
/-- spec.l34Cells -/
def pspec_l34Cells (k : Nat) (d117_ : List GCell) : Option (List GCell) :=
  (pspec_l34Cells_L1 k d117_ k [] 0).bind fun out1 => match out1 with
  | .ret r => some r
  | .done d120_ =>
    some d120_
theorem cspec_l34Cells {k : Nat} {d117_ : List GCell} {r : (List GCell)} (h : pspec_l34Cells k d117_ = some r) : FnO Try.prog 117 [.v (.sl (List.map GCell.c d117_)) []] (.v (.sl (List.map GCell.c r)) [(0, .app 110)]) [] := by
  refine FnO.of Try.func117 (rfl : Try.f117.body = some _) (Nat.le_of_ble_eq_true (by kernel_rfl)) (Nat.le_of_ble_eq_true (by kernel_rfl)) ?_
  intro w0 X0 Fin pv0 pb
  unfold pspec_l34Cells at h
  refine Wc.seq ?_
  refine Wc.region [] [] [0] [] [] ⟨[(0, (.v (.sl (List.map GCell.c d117_)), []))], [], []⟩ _ (by kernel_rfl) .nil ?_
  refine Wc.seq ?_
  refine Wc.region [{ c := some (List.map GCell.c []) }, { tk := [5] }] [] [0, 3] [] [] ⟨[(0, (.v (.sl (List.map GCell.c d117_)), [])), (3, (.v (.sl (List.map GCell.c [])), [(0, .app 110)]))], [], []⟩ _ (by kernel_rfl) (.cons (cl_nil GCell.c) .nil) ?_
  refine Wc.seq ?_
  refine Wc.seq ?_
  refine Wc.region [] [] [0, 3, 4] [] [] ⟨[(0, (.v (.sl (List.map GCell.c d117_)), [])), (3, (.v (.sl (List.map GCell.c [])), [(0, .app 110)])), (4, (.v (.int .i64 0), []))], [], []⟩ _ (by kernel_rfl) .nil ?_
  obtain ⟨out1, h104, h⟩ := obind h
  refine Wc.lastJ (fun st => ∃ (d120_ : List GCell), out1 = .done d120_ ∧ st = ⟨[(3, (.v (.sl (List.map GCell.c d120_)), [(0, .app 110)]))], [], []⟩) ?_ ?_
  · refine Wc.block ?_
    refine Wc.loop (fun m st => ∃ (d118_ : List GCell) (b119_ : Int), st = ⟨[(0, (.v (.sl (List.map GCell.c d117_)), [])), (3, (.v (.sl (List.map GCell.c d118_)), [(0, .app 110)])), (4, (.v (.int .i64 b119_), []))], [], []⟩ ∧ pspec_l34Cells_L1 k d117_ m d118_ b119_ = some out1) ?_ k ⟨_, _, rfl, h104⟩
    rintro m st ⟨d118_, b119_, rfl, h104⟩
    cases m with
    | zero => exact (onone h104).elim
    | succ m =>
      refine Wc.seq ?_
      refine Wc.seq ?_
      refine Wc.region [{}, {}, { v := some (.int .i64 (d117_.length : Int)) }] [] [0, 3, 4, 9] [] [] ⟨[(0, (.v (.sl (List.map GCell.c d117_)), [])), (3, (.v (.sl (List.map GCell.c d118_)), [(0, .app 110)])), (4, (.v (.int .i64 b119_), [])), (9, (.v (.bool (decide (b119_ < (d117_.length : Int)))), []))], [], []⟩ _ (by kernel_rfl) (.cons (len_obl GCell.c d117_) .nil) ?_
      rcases oif h104 with ⟨h105, h104⟩ | ⟨h105, h104⟩
      · refine Wc.condT h105 (by kernel_rfl) ?_
        refine Wc.fix (st' := ⟨[(0, (.v (.sl (List.map GCell.c d117_)), [])), (3, (.v (.sl (List.map GCell.c d118_)), [(0, .app 110)])), (4, (.v (.int .i64 b119_), []))], [], []⟩) [] [0, 3, 4] [] [] (by kernel_rfl) ?_
        refine Wc.skip ?_
        refine Wc.seq ?_
        refine Wc.block ?_
        obtain ⟨c121_, h106, h104⟩ := obind h104
        obtain ⟨c122_, h107, h104⟩ := obind h104
        obtain ⟨h108, h104⟩ := oguard h104
        refine Wc.region [{ tk := [3] }, {}, {}, { v := some (.vptr [.int .i64 c121_.gKind, .str c121_.gName, .int .i64 c121_.gNum, .int .i64 c121_.gTo, .sl (List.map cI.i64 c121_.gKids)]) }, {}, { r := some (.v (.agg [.int .i64 c122_.gKind, .str c122_.gName, .int .i64 c122_.gNum, .int .i64 c122_.gTo, .sl (List.map cI.i64 c122_.gKids)]) [(4, .app 3)]) }, { c := some (List.map GCell.c [c122_]) }, { c := some (List.map GCell.c (d118_ ++ [c122_])), tk := [12] }, { tk := [19] }] [] [0, 3, 4] [] [] ⟨[(0, (.v (.sl (List.map GCell.c d117_)), [])), (3, (.v (.sl (List.map GCell.c (d118_ ++ [c122_]))), [(0, .app 110)])), (4, (.v (.int .i64 b119_), []))], [], []⟩ _ (by kernel_rfl) (.cons (at_obl (c := GCell.c) (GCell.c_eq c121_) GCell.c_len h106) (.cons (len_ok 5 [.int .i64 c121_.gKind, .str c121_.gName, .int .i64 c121_.gNum, .int .i64 c121_.gTo, .sl (List.map cI.i64 c121_.gKids)]) (.cons (cspec_l34Cell h107) (.cons (cl_cons (c := GCell.c) (x := c122_) (GCell.c_eq c122_) (cl_nil GCell.c)) (.cons (app_re2 GCell.c d118_ [c122_]) (.cons (app_leaf (c := GCell.c) (ys := [c122_]) GCell.c_leaf) (.cons (app_obl2 (c := GCell.c) (xs := d118_) (ys := [c122_]) GCell.c_len h108) .nil))))))) ?_
        refine Wc.region [] [] [0, 3, 4] [] [] ⟨[(0, (.v (.sl (List.map GCell.c d117_)), [])), (3, (.v (.sl (List.map GCell.c (d118_ ++ [c122_]))), [(0, .app 110)])), (4, (.v (.int .i64 (wr.i64 (b119_ + 1))), []))], [], []⟩ _ (by kernel_rfl) .nil ?_
        exact ⟨_, Nat.lt_succ_self _, _, _, rfl, h104⟩
      · refine Wc.condF h105 (by kernel_rfl) ?_
        refine Wc.fix (st' := ⟨[(3, (.v (.sl (List.map GCell.c d118_)), [(0, .app 110)]))], [], []⟩) [] [3] [] [] (by kernel_rfl) ?_
        refine Wc.exit ?_
        obtain rfl := Option.some.inj h104
        exact ⟨_, rfl, rfl⟩
  · rintro st ⟨d120_, rfl, rfl⟩
    refine Wc.seq ?_
    refine Wc.region [{ tk := [3] }, { tk := [20] }] [] [2] [] [] ⟨[(2, (.v (.sl (List.map GCell.c d120_)), [(0, .app 110)]))], [], []⟩ _ (by kernel_rfl) .nil ?_
    refine Wc.ret ?_
    obtain rfl := Option.some.inj h
    exact ⟨.inl rfl, by kernel_rfl, by kernel_rfl⟩

/-- spec.l34Heap -/
def pspec_l34Heap (k : Nat) (e126_ : GHeap) : Option GHeap :=
  (pspec_l34Cells k e126_.gCells).bind fun g127_ =>
  (pspec_l34Ints k e126_.gTrail).bind fun f128_ =>
  some (GHeap.mk g127_ f128_)
theorem cspec_l34Heap {k : Nat} {e126_ : GHeap} {r : GHeap} (h : pspec_l34Heap k e126_ = some r) : FnO Try.prog 77 [.v (.agg [.sl (List.map GCell.c e126_.gCells), .sl (List.map cI.i64 e126_.gTrail)]) []] (.v (.agg [.sl (List.map GCell.c r.gCells), .sl (List.map cI.i64 r.gTrail)]) [(0, .app 110), (1, .app 3)]) [] := by
  refine FnO.of Try.func77 (rfl : Try.f77.body = some _) (Nat.le_of_ble_eq_true (by kernel_rfl)) (Nat.le_of_ble_eq_true (by kernel_rfl)) ?_
  intro w0 X0 Fin pv0 pb
  unfold pspec_l34Heap at h
  refine Wc.seq ?_
  refine Wc.region [] [] [1, 2] [1, 2] [] ⟨[(1, (.ptr 1 0, [])), (2, (.ptr 2 0, []))], [(1, .cells [.sl (List.map GCell.c e126_.gCells), .sl (List.map cI.i64 e126_.gTrail)] []), (2, .cells [.sl (List.map GCell.c []), .sl (List.map cI.i64 [])] [(0, .app 110), (1, .app 3)])], []⟩ _ (by kernel_rfl) .nil ?_
  refine Wc.seq ?_
  obtain ⟨g127_, h111, h⟩ := obind h
  refine Wc.region [{}, {}, { r := some (.v (.sl (List.map GCell.c g127_)) [(0, .app 110)]) }, {}, { tk := [5] }] [] [1, 2] [1, 2] [] ⟨[(1, (.ptr 1 0, [])), (2, (.ptr 2 0, []))], [(1, .cells [.sl (List.map GCell.c g127_), .sl (List.map cI.i64 e126_.gTrail)] [(0, .app 110)]), (2, .cells [.sl (List.map GCell.c []), .sl (List.map cI.i64 [])] [(0, .app 110), (1, .app 3)])], []⟩ _ (by kernel_rfl) (.cons (cspec_l34Cells h111) .nil) ?_
  refine Wc.seq ?_
  obtain ⟨f128_, h112, h⟩ := obind h
  refine Wc.region [{}, {}, { r := some (.v (.sl (List.map cI.i64 f128_)) [(0, .app 3)]) }, {}, { tk := [9] }] [] [1, 2] [1, 2] [] ⟨[(1, (.ptr 1 0, [])), (2, (.ptr 2 0, []))], [(1, .cells [.sl (List.map GCell.c g127_), .sl (List.map cI.i64 f128_)] [(0, .app 110), (1, .app 3)]), (2, .cells [.sl (List.map GCell.c []), .sl (List.map cI.i64 [])] [(0, .app 110), (1, .app 3)])], []⟩ _ (by kernel_rfl) (.cons (cspec_l34Ints h112) .nil) ?_
  refine Wc.seq ?_
  refine Wc.region [{ md := 1 }, { tk := [11] }] [] [2] [2] [] ⟨[(2, (.ptr 2 0, []))], [(2, .cells [.sl (List.map GCell.c g127_), .sl (List.map cI.i64 f128_)] [(0, .app 110), (1, .app 3)])], []⟩ _ (by kernel_rfl) .nil ?_
  refine Wc.ret ?_
  obtain rfl := Option.some.inj h
  exact ⟨.inl rfl, by kernel_rfl, by kernel_rfl⟩

/-- spec.l01In -/
def pspec_l01In (k : Nat) (b129_ : Int) (b130_ : Int) (b131_ : Int) : Option Bool :=
  if (decide (b129_ ≥ b130_)) = true then
    some (decide (b129_ ≤ b131_))
  else
    some false
theorem cspec_l01In {k : Nat} {b129_ : Int} {b130_ : Int} {b131_ : Int} {r : Bool} (h : pspec_l01In k b129_ b130_ b131_ = some r) : FnO Try.prog 100 [.v (.int .i64 b129_) [], .v (.int .i64 b130_) [], .v (.int .i64 b131_) []] (.v (.bool r) []) [] := by
  refine FnO.of Try.func100 (rfl : Try.f100.body = some _) (Nat.le_of_ble_eq_true (by kernel_rfl)) (Nat.le_of_ble_eq_true (by kernel_rfl)) ?_
  intro w0 X0 Fin pv0 pb
  unfold pspec_l01In at h
  refine Wc.seq ?_
  refine Wc.region [] [] [0, 1, 2] [] [] ⟨[(0, (.v (.int .i64 b129_), [])), (1, (.v (.int .i64 b130_), [])), (2, (.v (.int .i64 b131_), []))], [], []⟩ _ (by kernel_rfl) .nil ?_
  refine Wc.seq ?_
  rcases oif h with ⟨h113, h⟩ | ⟨h113, h⟩
  · refine Wc.region [{}, {}, {}, { re := some (.bool true) }] [] [6] [] [] ⟨[(6, (.v (.bool (decide (b129_ ≤ b131_))), []))], [], []⟩ _ (by kernel_rfl) (.cons (congrArg AV.bool h113) .nil) ?_
    refine Wc.ret ?_
    obtain rfl := Option.some.inj h
    exact ⟨.inl rfl, by kernel_rfl, by kernel_rfl⟩
  · refine Wc.region [{}, {}, {}, { re := some (.bool false) }] [] [6] [] [] ⟨[(6, (.v (.bool false), []))], [], []⟩ _ (by kernel_rfl) (.cons (congrArg AV.bool h113) .nil) ?_
    refine Wc.ret ?_
    obtain rfl := Option.some.inj h
    exact ⟨.inl rfl, by kernel_rfl, by kernel_rfl⟩

def pspec_l13Heap_name_L1 (k : Nat) (b133_ : Int) : Nat → GL13Heap → Option (Out GL13Heap GL13Heap)
  | 0, _ => none
  | m + 1, n135_ =>
    if (decide ((n135_.gRefs.length : Int) ≤ b133_)) = true then
      if n135_.gRefs.length + [-1].length ≤ 1073741824 then
        pspec_l13Heap_name_L1 k b133_ m (GL13Heap.mk n135_.gCells n135_.gTrail (n135_.gRefs ++ [-1]) n135_.gPairs)
      else none
    else
      some (.done n135_)
/-- (*spec.l13Heap).name -/
def pspec_l13Heap_name (k : Nat) (n132_ : GL13Heap) (b133_ : Int) (b134_ : Int) : Option GL13Heap :=
  (pspec_l13Heap_name_L1 k b133_ k n132_).bind fun out1 => match out1 with
  | .ret r => some r
  | .done n136_ =>
    (at' n136_.gRefs b133_).bind fun b137_ =>
    if (decide (b137_ < 0)) = true then
      (at' n136_.gRefs b133_).bind fun b138_ =>
      some (GL13Heap.mk n136_.gCells n136_.gTrail (n136_.gRefs.set ((b133_).toNat) b134_) n136_.gPairs)
    else
      some n136_
theorem cspec_l13Heap_name {k : Nat} {n132_ : GL13Heap} {b133_ : Int} {b134_ : Int} {r : GL13Heap} (h : pspec_l13Heap_name k n132_ b133_ b134_ = some r) : FnO Try.prog 131 [.p [.slx, .slx, .slx, .int .i64 n132_.gPairs] [(0, .ex 110 false (List.map GCell.c n132_.gCells)), (1, .ex 3 false (List.map cI.i64 n132_.gTrail)), (2, .ex 3 false (List.map cI.i64 n132_.gRefs))], .v (.int .i64 b133_) [], .v (.int .i64 b134_) []] (.v (.tup []) []) [(0, .p [.slx, .slx, .slx, .int .i64 r.gPairs] [(0, .ex 110 false (List.map GCell.c r.gCells)), (1, .ex 3 false (List.map cI.i64 r.gTrail)), (2, .ex 3 false (List.map cI.i64 r.gRefs))])] := by
  refine FnO.of Try.func131 (rfl : Try.f131.body = some _) (Nat.le_of_ble_eq_true (by kernel_rfl)) (Nat.le_of_ble_eq_true (by kernel_rfl)) ?_
  intro w0 X0 Fin pv0 pb
  unfold pspec_l13Heap_name at h
  obtain ⟨out1, h114, h⟩ := obind h
  refine Wc.seqJ (fun st => ∃ (n136_ : GL13Heap), out1 = .done n136_ ∧ st = ⟨[(0, (.ptr 1000000 0, [])), (1, (.v (.int .i64 b133_), [])), (2, (.v (.int .i64 b134_), []))], [(1000000, .cells [.slx, .slx, .slx, .int .i64 n136_.gPairs] [(0, .ex 110 false (List.map GCell.c n136_.gCells)), (1, .ex 3 false (List.map cI.i64 n136_.gTrail)), (2, .ex 3 false (List.map cI.i64 n136_.gRefs))])], []⟩) ?_ ?_
  · refine Wc.block ?_
    refine Wc.loop (fun m st => ∃ (n135_ : GL13Heap), st = ⟨[(0, (.ptr 1000000 0, [])), (1, (.v (.int .i64 b133_), [])), (2, (.v (.int .i64 b134_), []))], [(1000000, .cells [.slx, .slx, .slx, .int .i64 n135_.gPairs] [(0, .ex 110 false (List.map GCell.c n135_.gCells)), (1, .ex 3 false (List.map cI.i64 n135_.gTrail)), (2, .ex 3 false (List.map cI.i64 n135_.gRefs))])], []⟩ ∧ pspec_l13Heap_name_L1 k b133_ m n135_ = some out1) ?_ k ⟨_, rfl, h114⟩
    rintro m st ⟨n135_, rfl, h114⟩
    cases m with
    | zero => exact (onone h114).elim
    | succ m =>
      refine Wc.seq ?_
      refine Wc.seq ?_
      refine Wc.region [{}, {}, {}, {}, { v := some (.int .i64 (n135_.gRefs.length : Int)) }] [] [0, 1, 2, 12] [1000000] [] ⟨[(0, (.ptr 1000000 0, [])), (1, (.v (.int .i64 b133_), [])), (2, (.v (.int .i64 b134_), [])), (12, (.v (.bool (decide ((n135_.gRefs.length : Int) ≤ b133_))), []))], [(1000000, .cells [.slx, .slx, .slx, .int .i64 n135_.gPairs] [(0, .ex 110 false (List.map GCell.c n135_.gCells)), (1, .ex 3 false (List.map cI.i64 n135_.gTrail)), (2, .ex 3 false (List.map cI.i64 n135_.gRefs))])], []⟩ _ (by kernel_rfl) (.cons (len_obl cI.i64 n135_.gRefs) .nil) ?_
      rcases oif h114 with ⟨h115, h114⟩ | ⟨h115, h114⟩
      · refine Wc.condT h115 (by kernel_rfl) ?_
        refine Wc.fix (st' := ⟨[(0, (.ptr 1000000 0, [])), (1, (.v (.int .i64 b133_), [])), (2, (.v (.int .i64 b134_), []))], [(1000000, .cells [.slx, .slx, .slx, .int .i64 n135_.gPairs] [(0, .ex 110 false (List.map GCell.c n135_.gCells)), (1, .ex 3 false (List.map cI.i64 n135_.gTrail)), (2, .ex 3 false (List.map cI.i64 n135_.gRefs))])], []⟩) [] [0, 1, 2] [1000000] [] (by kernel_rfl) ?_
        refine Wc.skip ?_
        refine Wc.block ?_
        obtain ⟨h116, h114⟩ := oguard h114
        refine Wc.region [{}, {}, {}, {}, { md := 1 }, { c := some (List.map cI.i64 [-1]) }, { c := some (List.map cI.i64 (n135_.gRefs ++ [-1])), tk := [17], md := 1 }, {}, {}, { tk := [19] }] [] [0, 1, 2] [1000000] [] ⟨[(0, (.ptr 1000000 0, [])), (1, (.v (.int .i64 b133_), [])), (2, (.v (.int .i64 b134_), []))], [(1000000, .cells [.slx, .slx, .slx, .int .i64 n135_.gPairs] [(0, .ex 110 false (List.map GCell.c n135_.gCells)), (1, .ex 3 false (List.map cI.i64 n135_.gTrail)), (2, .ex 3 false (List.map cI.i64 (n135_.gRefs ++ [-1])))])], []⟩ _ (by kernel_rfl) (.cons (cl_cons (c := cI.i64) (x := -1) rfl (cl_nil cI.i64)) (.cons (app_re2 cI.i64 n135_.gRefs [-1]) (.cons (app_leaf (c := cI.i64) (ys := [-1]) cI.i64_leaf) (.cons (app_obl2 (c := cI.i64) (xs := n135_.gRefs) (ys := [-1]) cI.i64_len h116) .nil)))) ?_
        exact ⟨_, Nat.lt_succ_self _, _, rfl, h114⟩
      · refine Wc.condF h115 (by kernel_rfl) ?_
        refine Wc.fix (st' := ⟨[(0, (.ptr 1000000 0, [])), (1, (.v (.int .i64 b133_), [])), (2, (.v (.int .i64 b134_), []))], [(1000000, .cells [.slx, .slx, .slx, .int .i64 n135_.gPairs] [(0, .ex 110 false (List.map GCell.c n135_.gCells)), (1, .ex 3 false (List.map cI.i64 n135_.gTrail)), (2, .ex 3 false (List.map cI.i64 n135_.gRefs))])], []⟩) [] [0, 1, 2] [1000000] [] (by kernel_rfl) ?_
        refine Wc.exit ?_
        obtain rfl := Option.some.inj h114
        exact ⟨_, rfl, rfl⟩
  · rintro st ⟨n136_, rfl, rfl⟩
    refine Wc.seq ?_
    obtain ⟨b137_, h117, h⟩ := obind h
    refine Wc.region [{}, {}, {}, {}, {}, {}, { v := some (.int .i64 b137_) }] [] [0, 1, 2, 29] [1000000] [] ⟨[(0, (.ptr 1000000 0, [])), (1, (.v (.int .i64 b133_), [])), (2, (.v (.int .i64 b134_), [])), (29, (.v (.bool (decide (b137_ < 0))), []))], [(1000000, .cells [.slx, .slx, .slx, .int .i64 n136_.gPairs] [(0, .ex 110 false (List.map GCell.c n136_.gCells)), (1, .ex 3 false (List.map cI.i64 n136_.gTrail)), (2, .ex 3 false (List.map cI.i64 n136_.gRefs))])], []⟩ _ (by kernel_rfl) (.cons (ix_obl (c := cI.i64) cI.i64_len h117) (.cons (el_obl (sz := 1) (off := 0) (s := 1) (ag := false) (v := .int .i64 b137_) (c := cI.i64) rfl (at'_spec h117).2 rfl (Nat.le_of_ble_eq_true rfl) rfl) .nil)) ?_
    rcases oif h with ⟨h118, h⟩ | ⟨h118, h⟩
    · refine Wc.condT h118 (by kernel_rfl) ?_
      obtain ⟨b138_, h119, h⟩ := obind h
      refine Wc.region [{}, {}, {}, {}, {}, {}, {}, { c := some (List.map cI.i64 (n136_.gRefs.set ((b133_).toNat) b134_)) }] [] [] [1000000] [] ⟨[], [(1000000, .cells [.slx, .slx, .slx, .int .i64 n136_.gPairs] [(0, .ex 110 false (List.map GCell.c n136_.gCells)), (1, .ex 3 false (List.map cI.i64 n136_.gTrail)), (2, .ex 3 false (List.map cI.i64 (n136_.gRefs.set ((b133_).toNat) b134_)))])], []⟩ _ (by kernel_rfl) (.cons (ix_obl (c := cI.i64) cI.i64_len h119) (.cons (mod_obl (off := 0) (new := [.int .i64 b134_]) (c := cI.i64) rfl rfl (at'_spec h119).2 rfl) (.cons (st_obl (sz := 1) (off := 0) (s := 1) (c := cI.i64) rfl (at'_spec h119).2 rfl (Nat.le_of_ble_eq_true rfl)) .nil))) ?_
      obtain rfl := Option.some.inj h
      exact ⟨(by first | exact .inl rfl | exact .inr rfl), by kernel_rfl, by kernel_rfl⟩
    · refine Wc.condF h118 (by kernel_rfl) ?_
      refine Wc.fix (st' := ⟨[], [(1000000, .cells [.slx, .slx, .slx, .int .i64 n136_.gPairs] [(0, .ex 110 false (List.map GCell.c n136_.gCells)), (1, .ex 3 false (List.map cI.i64 n136_.gTrail)), (2, .ex 3 false (List.map cI.i64 n136_.gRefs))])], []⟩) [] [] [1000000] [] (by kernel_rfl) ?_
      refine Wc.skip ?_
      obtain rfl := Option.some.inj h
      exact ⟨(by first | exact .inl rfl | exact .inr rfl), by kernel_rfl, by kernel_rfl⟩

def pspec_l13Of_J2 (k : Nat) (bk_ : Int → GL13Heap → Option (Out GL13Heap GL13Heap)) (e149_ : GHeap) (b150_ : Int) (n151_ : GL13Heap) (i153_ : Bool) : Option (Out GL13Heap GL13Heap) :=
  if i153_ = true then
    (at' e149_.gCells b150_).bind fun c154_ =>
    (pspec_l13Heap_name k n151_ c154_.gNum b150_).bind fun n155_ =>
    bk_ (wr.i64 (b150_ + 1)) n155_
  else
    bk_ (wr.i64 (b150_ + 1)) n151_
def pspec_l13Of_L1 (k : Nat) (e149_ : GHeap) : Nat → Int → GL13Heap → Option (Out GL13Heap GL13Heap)
  | 0, _, _ => none
  | m + 1, b150_, n151_ =>
    if (decide (b150_ < (e149_.gCells.length : Int))) = true then
      (at' e149_.gCells b150_).bind fun c156_ =>
      if (c156_.gKind == 1) = true then
        (at' e149_.gCells b150_).bind fun c157_ =>
        (pspec_l01In k c157_.gNum 0 200000).bind fun i158_ =>
        pspec_l13Of_J2 k (pspec_l13Of_L1 k e149_ m) e149_ b150_ n151_ i158_
      else
        pspec_l13Of_J2 k (pspec_l13Of_L1 k e149_ m) e149_ b150_ n151_ false
    else
      some (.done n151_)
/-- spec.l13Of -/
def pspec_l13Of (k : Nat) (e149_ : GHeap) : Option GL13Heap :=
  if ([] : List GCell).length + e149_.gCells.length ≤ 1073741824 then
    if ([] : List Int).length + e149_.gTrail.length ≤ 1073741824 then
      (pspec_l13Of_L1 k e149_ k 0 (GL13Heap.mk e149_.gCells e149_.gTrail [] 0)).bind fun out1 => match out1 with
      | .ret r => some r
      | .done n152_ =>
        some n152_
    else none
  else none
set_option maxHeartbeats 4000000 in
theorem cspec_l13Of {k : Nat} {e149_ : GHeap} {r : GL13Heap} (h : pspec_l13Of k e149_ = some r) : FnO Try.prog 112 [.v (.agg [.sl (List.map GCell.c e149_.gCells), .sl (List.map cI.i64 e149_.gTrail)]) []] (.p [.slx, .slx, .slx, .int .i64 r.gPairs] [(0, .ex 110 false (List.map GCell.c r.gCells)), (1, .ex 3 false (List.map cI.i64 r.gTrail)), (2, .ex 3 false (List.map cI.i64 r.gRefs))]) [] := by
  refine FnO.of Try.func112 (rfl : Try.f112.body = some _) (Nat.le_of_ble_eq_true (by kernel_rfl)) (Nat.le_of_ble_eq_true (by kernel_rfl)) ?_
  intro w0 X0 Fin pv0 pb
  unfold pspec_l13Of at h
  refine Wc.seq ?_
  refine Wc.region [] [] [1] [1] [] ⟨[(1, (.ptr 1 0, []))], [(1, .cells [.sl (List.map GCell.c e149_.gCells), .sl (List.map cI.i64 e149_.gTrail)] [])], []⟩ _ (by kernel_rfl) .nil ?_
  refine Wc.seq ?_
  obtain ⟨h131, h⟩ := oguard h
  obtain ⟨h132, h⟩ := oguard h
  refine Wc.draw hmix [{ c := some (List.map GCell.c []), md := 1 }, {}, {}, { c := some (List.map GCell.c e149_.gCells), tk := [5], md := 1 }, { c := some (List.map cI.i64 []), md := 1 }, {}, {}, { c := some (List.map cI.i64 e149_.gTrail), tk := [9], md := 1 }, { tk := [8, 12] }, { tk := [13] }] [.so 14] [1, 3] [1, 14] [] ⟨[(1, (.ptr 1 0, [])), (3, (.ptr 14 0, []))], [(1, .cells [.sl (List.map GCell.c e149_.gCells), .sl (List.map cI.i64 e149_.gTrail)] []), (14, .cells [.slx, .slx, .sl (List.map cI.i64 []), .int .i64 0] [(0, .ex 110 false (List.map GCell.c e149_.gCells)), (1, .ex 3 false (List.map cI.i64 e149_.gTrail)), (2, .app 3)])], []⟩ _ (by kernel_rfl) (fun X => by kernel_rfl) (.cons (cl_nil GCell.c) (.cons (app_re0 GCell.c e149_.gCells) (.cons (app_leaf (c := GCell.c) (ys := e149_.gCells) GCell.c_leaf) (.cons (app_obl2 (c := GCell.c) (xs := []) (ys := e149_.gCells) GCell.c_len h131) (.cons (cl_nil cI.i64) (.cons (app_re0 cI.i64 e149_.gTrail) (.cons (app_leaf (c := cI.i64) (ys := e149_.gTrail) cI.i64_leaf) (.cons (app_obl2 (c := cI.i64) (xs := []) (ys := e149_.gTrail) cI.i64_len h132) .nil)))))))) ?_
  refine Wc.seq ?_
  refine Wc.seq ?_
  refine Wc.region [] [] [1, 3, 4] [1, 14] [] ⟨[(1, (.ptr 1 0, [])), (3, (.ptr 14 0, [])), (4, (.v (.int .i64 0), []))], [(1, .cells [.sl (List.map GCell.c e149_.gCells), .sl (List.map cI.i64 e149_.gTrail)] []), (14, .cells [.slx, .slx, .sl (List.map cI.i64 []), .int .i64 0] [(0, .ex 110 false (List.map GCell.c e149_.gCells)), (1, .ex 3 false (List.map cI.i64 e149_.gTrail)), (2, .app 3)])], []⟩ _ (by kernel_rfl) .nil ?_
  obtain ⟨out1, h133, h⟩ := obind h
  refine Wc.lastJ (fun st => ∃ (n152_ : GL13Heap), out1 = .done n152_ ∧ st = ⟨[(3, (.ptr 14 0, []))], [(14, .cells [.slx, .slx, .slx, .int .i64 n152_.gPairs] [(0, .ex 110 false (List.map GCell.c n152_.gCells)), (1, .ex 3 false (List.map cI.i64 n152_.gTrail)), (2, .ex 3 false (List.map cI.i64 n152_.gRefs))])], []⟩) ?_ ?_
  · refine Wc.block ?_
    refine Wc.fix (st' := ⟨[(1, (.ptr 1 0, [])), (3, (.ptr 14 0, [])), (4, (.v (.int .i64 0), []))], [(1, .cells [.sl (List.map GCell.c e149_.gCells), .sl (List.map cI.i64 e149_.gTrail)] []), (14, .cells [.slx, .slx, .slx, .int .i64 0] [(0, .ex 110 false (List.map GCell.c e149_.gCells)), (1, .ex 3 false (List.map cI.i64 e149_.gTrail)), (2, .ex 3 false (List.map cI.i64 []))])], []⟩) [.ow (.b 14 2) false] [1, 3, 4] [1, 14] [] (by kernel_rfl) ?_
    refine Wc.loop (fun m st => ∃ (b150_ : Int) (n151_ : GL13Heap), st = ⟨[(1, (.ptr 1 0, [])), (3, (.ptr 14 0, [])), (4, (.v (.int .i64 b150_), []))], [(1, .cells [.sl (List.map GCell.c e149_.gCells), .sl (List.map cI.i64 e149_.gTrail)] []), (14, .cells [.slx, .slx, .slx, .int .i64 n151_.gPairs] [(0, .ex 110 false (List.map GCell.c n151_.gCells)), (1, .ex 3 false (List.map cI.i64 n151_.gTrail)), (2, .ex 3 false (List.map cI.i64 n151_.gRefs))])], []⟩ ∧ pspec_l13Of_L1 k e149_ m b150_ n151_ = some out1) ?_ k ⟨_, _, rfl, h133⟩
    rintro m st ⟨b150_, n151_, rfl, h133⟩
    cases m with
    | zero => exact (onone h133).elim
    | succ m =>
      refine Wc.seq ?_
      refine Wc.seq ?_
      refine Wc.region [{}, {}, {}, { v := some (.int .i64 (e149_.gCells.length : Int)) }] [] [1, 3, 4, 19] [1, 14] [] ⟨[(1, (.ptr 1 0, [])), (3, (.ptr 14 0, [])), (4, (.v (.int .i64 b150_), [])), (19, (.v (.bool (decide (b150_ < (e149_.gCells.length : Int)))), []))], [(1, .cells [.sl (List.map GCell.c e149_.gCells), .sl (List.map cI.i64 e149_.gTrail)] []), (14, .cells [.slx, .slx, .slx, .int .i64 n151_.gPairs] [(0, .ex 110 false (List.map GCell.c n151_.gCells)), (1, .ex 3 false (List.map cI.i64 n151_.gTrail)), (2, .ex 3 false (List.map cI.i64 n151_.gRefs))])], []⟩ _ (by kernel_rfl) (.cons (len_obl GCell.c e149_.gCells) .nil) ?_
      rcases oif h133 with ⟨h134, h133⟩ | ⟨h134, h133⟩
      · refine Wc.condT h134 (by kernel_rfl) ?_
        refine Wc.fix (st' := ⟨[(1, (.ptr 1 0, [])), (3, (.ptr 14 0, [])), (4, (.v (.int .i64 b150_), []))], [(1, .cells [.sl (List.map GCell.c e149_.gCells), .sl (List.map cI.i64 e149_.gTrail)] []), (14, .cells [.slx, .slx, .slx, .int .i64 n151_.gPairs] [(0, .ex 110 false (List.map GCell.c n151_.gCells)), (1, .ex 3 false (List.map cI.i64 n151_.gTrail)), (2, .ex 3 false (List.map cI.i64 n151_.gRefs))])], []⟩) [] [1, 3, 4] [1, 14] [] (by kernel_rfl) ?_
        refine Wc.skip ?_
        refine Wc.seq ?_
        refine Wc.block ?_
        refine Wc.seqJ (fun st => ∃ (i153_ : Bool), st = ⟨[(1, (.ptr 1 0, [])), (3, (.ptr 14 0, [])), (4, (.v (.int .i64 b150_), [])), (37, (.v (.bool i153_), []))], [(1, .cells [.sl (List.map GCell.c e149_.gCells), .sl (List.map cI.i64 e149_.gTrail)] []), (14, .cells [.slx, .slx, .slx, .int .i64 n151_.gPairs] [(0, .ex 110 false (List.map GCell.c n151_.gCells)), (1, .ex 3 false (List.map cI.i64 n151_.gTrail)), (2, .ex 3 false (List.map cI.i64 n151_.gRefs))])], []⟩ ∧ pspec_l13Of_J2 k (pspec_l13Of_L1 k e149_ m) e149_ b150_ n151_ i153_ = some out1) ?_ ?_
        · obtain ⟨c156_, h138, h133⟩ := obind h133
          rcases oif h133 with ⟨h139, h133⟩ | ⟨h139, h133⟩
          · obtain ⟨c157_, h140, h133⟩ := obind h133
            obtain ⟨i158_, h141, h133⟩ := obind h133
            refine Wc.region [{}, {}, {}, { v := some (.vptr [.int .i64 c156_.gKind, .str c156_.gName, .int .i64 c156_.gNum, .int .i64 c156_.gTo, .sl (List.map cI.i64 c156_.gKids)]) }, {}, {}, {}, { re := some (.bool true) }, {}, {}, {}, { v := some (.vptr [.int .i64 c157_.gKind, .str c157_.gName, .int .i64 c157_.gNum, .int .i64 c157_.gTo, .sl (List.map cI.i64 c157_.gKids)]) }, {}, {}, { r := some (.v (.bool i158_) []) }] [] [1, 3, 4, 37] [1, 14] [] ⟨[(1, (.ptr 1 0, [])), (3, (.ptr 14 0, [])), (4, (.v (.int .i64 b150_), [])), (37, (.v (.bool i158_), []))], [(1, .cells [.sl (List.map GCell.c e149_.gCells), .sl (List.map cI.i64 e149_.gTrail)] []), (14, .cells [.slx, .slx, .slx, .int .i64 n151_.gPairs] [(0, .ex 110 false (List.map GCell.c n151_.gCells)), (1, .ex 3 false (List.map cI.i64 n151_.gTrail)), (2, .ex 3 false (List.map cI.i64 n151_.gRefs))])], []⟩ _ (by kernel_rfl) (.cons (at_obl (c := GCell.c) (GCell.c_eq c156_) GCell.c_len h138) (.cons (len_ok 1 [.int .i64 c156_.gKind, .str c156_.gName, .int .i64 c156_.gNum, .int .i64 c156_.gTo, .sl (List.map cI.i64 c156_.gKids)]) (.cons (congrArg AV.bool h139) (.cons (at_obl (c := GCell.c) (GCell.c_eq c157_) GCell.c_len h140) (.cons (len_ok 1 [.int .i64 c157_.gNum, .int .i64 c157_.gTo, .sl (List.map cI.i64 c157_.gKids)]) (.cons (cspec_l01In h141) .nil)))))) ?_
            exact ⟨_, rfl, h133⟩
          · refine Wc.region [{}, {}, {}, { v := some (.vptr [.int .i64 c156_.gKind, .str c156_.gName, .int .i64 c156_.gNum, .int .i64 c156_.gTo, .sl (List.map cI.i64 c156_.gKids)]) }, {}, {}, {}, { re := some (.bool false) }] [] [1, 3, 4, 37] [1, 14] [] ⟨[(1, (.ptr 1 0, [])), (3, (.ptr 14 0, [])), (4, (.v (.int .i64 b150_), [])), (37, (.v (.bool false), []))], [(1, .cells [.sl (List.map GCell.c e149_.gCells), .sl (List.map cI.i64 e149_.gTrail)] []), (14, .cells [.slx, .slx, .slx, .int .i64 n151_.gPairs] [(0, .ex 110 false (List.map GCell.c n151_.gCells)), (1, .ex 3 false (List.map cI.i64 n151_.gTrail)), (2, .ex 3 false (List.map cI.i64 n151_.gRefs))])], []⟩ _ (by kernel_rfl) (.cons (at_obl (c := GCell.c) (GCell.c_eq c156_) GCell.c_len h138) (.cons (len_ok 1 [.int .i64 c156_.gKind, .str c156_.gName, .int .i64 c156_.gNum, .int .i64 c156_.gTo, .sl (List.map cI.i64 c156_.gKids)]) (.cons (congrArg AV.bool h139) .nil))) ?_
            exact ⟨_, rfl, h133⟩
        · rintro st ⟨i153_, rfl, h133⟩
          rcases oif h133 with ⟨h135, h133⟩ | ⟨h135, h133⟩
          · refine Wc.condT h135 (by kernel_rfl) ?_
            obtain ⟨c154_, h136, h133⟩ := obind h133
            obtain ⟨n155_, h137, h133⟩ := obind h133
            refine Wc.region [{}, {}, {}, {}, { v := some (.vptr [.int .i64 c154_.gKind, .str c154_.gName, .int .i64 c154_.gNum, .int .i64 c154_.gTo, .sl (List.map cI.i64 c154_.gKids)]) }, {}, {}, {}, { r := some (.v (.tup []) []), outs := [(0, .p [.slx, .slx, .slx, .int .i64 n155_.gPairs] [(0, .ex 110 false (List.map GCell.c n155_.gCells)), (1, .ex 3 false (List.map cI.i64 n155_.gTrail)), (2, .ex 3 false (List.map cI.i64 n155_.gRefs))])] }] [] [1, 3, 4] [1, 14] [] ⟨[(1, (.ptr 1 0, [])), (3, (.ptr 14 0, [])), (4, (.v (.int .i64 b150_), []))], [(1, .cells [.sl (List.map GCell.c e149_.gCells), .sl (List.map cI.i64 e149_.gTrail)] []), (14, .cells [.slx, .slx, .slx, .int .i64 n155_.gPairs] [(0, .ex 110 false (List.map GCell.c n155_.gCells)), (1, .ex 3 false (List.map cI.i64 n155_.gTrail)), (2, .ex 3 false (List.map cI.i64 n155_.gRefs))])], []⟩ _ (by kernel_rfl) (.cons (at_obl (c := GCell.c) (GCell.c_eq c154_) GCell.c_len h136) (.cons (len_ok 1 [.int .i64 c154_.gNum, .int .i64 c154_.gTo, .sl (List.map cI.i64 c154_.gKids)]) (.cons (cspec_l13Heap_name h137) .nil))) ?_
            refine Wc.region [] [] [1, 3, 4] [1, 14] [] ⟨[(1, (.ptr 1 0, [])), (3, (.ptr 14 0, [])), (4, (.v (.int .i64 (wr.i64 (b150_ + 1))), []))], [(1, .cells [.sl (List.map GCell.c e149_.gCells), .sl (List.map cI.i64 e149_.gTrail)] []), (14, .cells [.slx, .slx, .slx, .int .i64 n155_.gPairs] [(0, .ex 110 false (List.map GCell.c n155_.gCells)), (1, .ex 3 false (List.map cI.i64 n155_.gTrail)), (2, .ex 3 false (List.map cI.i64 n155_.gRefs))])], []⟩ _ (by kernel_rfl) .nil ?_
            exact ⟨_, Nat.lt_succ_self _, _, _, rfl, h133⟩
          · refine Wc.condF h135 (by kernel_rfl) ?_
            refine Wc.fix (st' := ⟨[(1, (.ptr 1 0, [])), (3, (.ptr 14 0, [])), (4, (.v (.int .i64 b150_), []))], [(1, .cells [.sl (List.map GCell.c e149_.gCells), .sl (List.map cI.i64 e149_.gTrail)] []), (14, .cells [.slx, .slx, .slx, .int .i64 n151_.gPairs] [(0, .ex 110 false (List.map GCell.c n151_.gCells)), (1, .ex 3 false (List.map cI.i64 n151_.gTrail)), (2, .ex 3 false (List.map cI.i64 n151_.gRefs))])], []⟩) [] [1, 3, 4] [1, 14] [] (by kernel_rfl) ?_
            refine Wc.skip ?_
            refine Wc.region [] [] [1, 3, 4] [1, 14] [] ⟨[(1, (.ptr 1 0, [])), (3, (.ptr 14 0, [])), (4, (.v (.int .i64 (wr.i64 (b150_ + 1))), []))], [(1, .cells [.sl (List.map GCell.c e149_.gCells), .sl (List.map cI.i64 e149_.gTrail)] []), (14, .cells [.slx, .slx, .slx, .int .i64 n151_.gPairs] [(0, .ex 110 false (List.map GCell.c n151_.gCells)), (1, .ex 3 false (List.map cI.i64 n151_.gTrail)), (2, .ex 3 false (List.map cI.i64 n151_.gRefs))])], []⟩ _ (by kernel_rfl) .nil ?_
            exact ⟨_, Nat.lt_succ_self _, _, _, rfl, h133⟩
      · refine Wc.condF h134 (by kernel_rfl) ?_
        refine Wc.fix (st' := ⟨[(3, (.ptr 14 0, []))], [(14, .cells [.slx, .slx, .slx, .int .i64 n151_.gPairs] [(0, .ex 110 false (List.map GCell.c n151_.gCells)), (1, .ex 3 false (List.map cI.i64 n151_.gTrail)), (2, .ex 3 false (List.map cI.i64 n151_.gRefs))])], []⟩) [] [3] [14] [] (by kernel_rfl) ?_
        refine Wc.exit ?_
        obtain rfl := Option.some.inj h133
        exact ⟨_, rfl, rfl⟩
  · rintro st ⟨n152_, rfl, rfl⟩
    refine Wc.seq ?_
    refine Wc.region [] [] [2] [14] [] ⟨[(2, (.ptr 14 0, []))], [(14, .cells [.slx, .slx, .slx, .int .i64 n152_.gPairs] [(0, .ex 110 false (List.map GCell.c n152_.gCells)), (1, .ex 3 false (List.map cI.i64 n152_.gTrail)), (2, .ex 3 false (List.map cI.i64 n152_.gRefs))])], []⟩ _ (by kernel_rfl) .nil ?_
    refine Wc.ret ?_
    obtain rfl := Option.some.inj h
    exact ⟨.inl rfl, by kernel_rfl, by kernel_rfl⟩

def pspec_l13Follow_L1 (k : Nat) (d159_ : List GCell) : Nat → Int → Int → Option (Out Int Unit)
  | 0, _, _ => none
  | m + 1, b161_, b162_ =>
    if (decide (b162_ ≤ (d159_.length : Int))) = true then
      (pspec_l01In k b161_ 0 (wr.i64 ((d159_.length : Int) - 1))).bind fun i163_ =>
      if (!i163_) = true then
        some (.ret (-1))
      else
        (at' d159_ b161_).bind fun c164_ =>
        if (c164_.gKind != 1) = true then
          some (.ret b161_)
        else
          (at' d159_ b161_).bind fun c165_ =>
          if (decide (c165_.gTo < 0)) = true then
            some (.ret b161_)
          else
            (at' d159_ b161_).bind fun c166_ =>
            pspec_l13Follow_L1 k d159_ m c166_.gTo (wr.i64 (b162_ + 1))
    else
      some (.done ())
/-- spec.l13Follow -/
def pspec_l13Follow (k : Nat) (d159_ : List GCell) (b160_ : Int) : Option Int :=
  (pspec_l13Follow_L1 k d159_ k b160_ 0).bind fun out1 => match out1 with
  | .ret r => some r
  | .done () =>
    some (-1)
theorem cspec_l13Follow {k : Nat} {d159_ : List GCell} {b160_ : Int} {r : Int} (h : pspec_l13Follow k d159_ b160_ = some r) : FnO Try.prog 133 [.v (.sl (List.map GCell.c d159_)) [], .v (.int .i64 b160_) []] (.v (.int .i64 r) []) [] := by
  refine FnO.of Try.func133 (rfl : Try.f133.body = some _) (Nat.le_of_ble_eq_true (by kernel_rfl)) (Nat.le_of_ble_eq_true (by kernel_rfl)) ?_
  intro w0 X0 Fin pv0 pb
  unfold pspec_l13Follow at h
  refine Wc.seq ?_
  refine Wc.region [] [] [0, 1] [] [] ⟨[(0, (.v (.sl (List.map GCell.c d159_)), [])), (1, (.v (.int .i64 b160_), []))], [], []⟩ _ (by kernel_rfl) .nil ?_
  refine Wc.seq ?_
  refine Wc.seq ?_
  refine Wc.region [] [] [0, 1, 5] [] [] ⟨[(0, (.v (.sl (List.map GCell.c d159_)), [])), (1, (.v (.int .i64 b160_), [])), (5, (.v (.int .i64 0), []))], [], []⟩ _ (by kernel_rfl) .nil ?_
  obtain ⟨out1, h142, h⟩ := obind h
  refine Wc.lastJ (fun st => out1 = .done () ∧ st = ⟨[], [], []⟩) ?_ ?_
  · refine Wc.block ?_
    refine Wc.loop (fun m st => ∃ (b161_ : Int) (b162_ : Int), st = ⟨[(0, (.v (.sl (List.map GCell.c d159_)), [])), (1, (.v (.int .i64 b161_), [])), (5, (.v (.int .i64 b162_), []))], [], []⟩ ∧ pspec_l13Follow_L1 k d159_ m b161_ b162_ = some out1) ?_ k ⟨_, _, rfl, h142⟩
    rintro m st ⟨b161_, b162_, rfl, h142⟩
    cases m with
    | zero => exact (onone h142).elim
    | succ m =>
      refine Wc.seq ?_
      refine Wc.seq ?_
      refine Wc.region [{}, {}, { v := some (.int .i64 (d159_.length : Int)) }] [] [0, 1, 5, 9] [] [] ⟨[(0, (.v (.sl (List.map GCell.c d159_)), [])), (1, (.v (.int .i64 b161_), [])), (5, (.v (.int .i64 b162_), [])), (9, (.v (.bool (decide (b162_ ≤ (d159_.length : Int)))), []))], [], []⟩ _ (by kernel_rfl) (.cons (len_obl GCell.c d159_) .nil) ?_
      rcases oif h142 with ⟨h143, h142⟩ | ⟨h143, h142⟩
      · refine Wc.condT h143 (by kernel_rfl) ?_
        refine Wc.fix (st' := ⟨[(0, (.v (.sl (List.map GCell.c d159_)), [])), (1, (.v (.int .i64 b161_), [])), (5, (.v (.int .i64 b162_), []))], [], []⟩) [] [0, 1, 5] [] [] (by kernel_rfl) ?_
        refine Wc.skip ?_
        refine Wc.seq ?_
        refine Wc.block ?_
        refine Wc.seq ?_
        refine Wc.seq ?_
        obtain ⟨i163_, h144, h142⟩ := obind h142
        refine Wc.region [{}, {}, { v := some (.int .i64 (d159_.length : Int)) }, {}, { r := some (.v (.bool i163_) []) }] [] [0, 1, 5, 17] [] [] ⟨[(0, (.v (.sl (List.map GCell.c d159_)), [])), (1, (.v (.int .i64 b161_), [])), (5, (.v (.int .i64 b162_), [])), (17, (.v (.bool (!i163_)), []))], [], []⟩ _ (by kernel_rfl) (.cons (len_obl GCell.c d159_) (.cons (cspec_l01In h144) .nil)) ?_
        rcases oif h142 with ⟨h145, h142⟩ | ⟨h145, h142⟩
        · refine Wc.condT h145 (by kernel_rfl) ?_
          refine Wc.seq ?_
          refine Wc.region [] [] [4] [] [] ⟨[(4, (.v (.int .i64 (-1)), []))], [], []⟩ _ (by kernel_rfl) .nil ?_
          refine Wc.ret ?_
          obtain rfl := Option.some.inj h142
          obtain rfl := Option.some.inj h
          exact ⟨.inl rfl, by kernel_rfl, by kernel_rfl⟩
        · refine Wc.condF h145 (by kernel_rfl) ?_
          refine Wc.fix (st' := ⟨[(0, (.v (.sl (List.map GCell.c d159_)), [])), (1, (.v (.int .i64 b161_), [])), (5, (.v (.int .i64 b162_), []))], [], []⟩) [] [0, 1, 5] [] [] (by kernel_rfl) ?_
          refine Wc.skip ?_
          refine Wc.seq ?_
          refine Wc.seq ?_
          obtain ⟨c164_, h146, h142⟩ := obind h142
          rcases oif h142 with ⟨h147, h142⟩ | ⟨h147, h142⟩
          · refine Wc.region [{}, {}, { v := some (.vptr [.int .i64 c164_.gKind, .str c164_.gName, .int .i64 c164_.gNum, .int .i64 c164_.gTo, .sl (List.map cI.i64 c164_.gKids)]) }, {}, {}, {}, { re := some (.bool true) }] [] [0, 1, 5, 31] [] [] ⟨[(0, (.v (.sl (List.map GCell.c d159_)), [])), (1, (.v (.int .i64 b161_), [])), (5, (.v (.int .i64 b162_), [])), (31, (.v (.bool true), []))], [], []⟩ _ (by kernel_rfl) (.cons (at_obl (c := GCell.c) (GCell.c_eq c164_) GCell.c_len h146) (.cons (len_ok 1 [.int .i64 c164_.gKind, .str c164_.gName, .int .i64 c164_.gNum, .int .i64 c164_.gTo, .sl (List.map cI.i64 c164_.gKids)]) (.cons (congrArg AV.bool h147) .nil))) ?_
            refine Wc.condT rfl (by kernel_rfl) ?_
            refine Wc.seq ?_
            refine Wc.region [] [] [4] [] [] ⟨[(4, (.v (.int .i64 b161_), []))], [], []⟩ _ (by kernel_rfl) .nil ?_
            refine Wc.ret ?_
            obtain rfl := Option.some.inj h142
            obtain rfl := Option.some.inj h
            exact ⟨.inl rfl, by kernel_rfl, by kernel_rfl⟩
          · obtain ⟨c165_, h148, h142⟩ := obind h142
            refine Wc.region [{}, {}, { v := some (.vptr [.int .i64 c164_.gKind, .str c164_.gName, .int .i64 c164_.gNum, .int .i64 c164_.gTo, .sl (List.map cI.i64 c164_.gKids)]) }, {}, {}, {}, { re := some (.bool false) }, {}, {}, { v := some (.vptr [.int .i64 c165_.gKind, .str c165_.gName, .int .i64 c165_.gNum, .int .i64 c165_.gTo, .sl (List.map cI.i64 c165_.gKids)]) }] [] [0, 1, 5, 31] [] [] ⟨[(0, (.v (.sl (List.map GCell.c d159_)), [])), (1, (.v (.int .i64 b161_), [])), (5, (.v (.int .i64 b162_), [])), (31, (.v (.bool (decide (c165_.gTo < 0))), []))], [], []⟩ _ (by kernel_rfl) (.cons (at_obl (c := GCell.c) (GCell.c_eq c164_) GCell.c_len h146) (.cons (len_ok 1 [.int .i64 c164_.gKind, .str c164_.gName, .int .i64 c164_.gNum, .int .i64 c164_.gTo, .sl (List.map cI.i64 c164_.gKids)]) (.cons (congrArg AV.bool h147) (.cons (at_obl (c := GCell.c) (GCell.c_eq c165_) GCell.c_len h148) (.cons (len_ok 1 [.int .i64 c165_.gTo, .sl (List.map cI.i64 c165_.gKids)]) .nil))))) ?_
            rcases oif h142 with ⟨h149, h142⟩ | ⟨h149, h142⟩
            · refine Wc.condT h149 (by kernel_rfl) ?_
              refine Wc.seq ?_
              refine Wc.region [] [] [4] [] [] ⟨[(4, (.v (.int .i64 b161_), []))], [], []⟩ _ (by kernel_rfl) .nil ?_
              refine Wc.ret ?_
              obtain rfl := Option.some.inj h142
              obtain rfl := Option.some.inj h
              exact ⟨.inl rfl, by kernel_rfl, by kernel_rfl⟩
            · refine Wc.condF h149 (by kernel_rfl) ?_
              refine Wc.fix (st' := ⟨[(0, (.v (.sl (List.map GCell.c d159_)), [])), (1, (.v (.int .i64 b161_), [])), (5, (.v (.int .i64 b162_), []))], [], []⟩) [] [0, 1, 5] [] [] (by kernel_rfl) ?_
              refine Wc.skip ?_
              obtain ⟨c166_, h150, h142⟩ := obind h142
              refine Wc.region [{}, {}, { v := some (.vptr [.int .i64 c166_.gKind, .str c166_.gName, .int .i64 c166_.gNum, .int .i64 c166_.gTo, .sl (List.map cI.i64 c166_.gKids)]) }] [] [0, 1, 5] [] [] ⟨[(0, (.v (.sl (List.map GCell.c d159_)), [])), (1, (.v (.int .i64 c166_.gTo), [])), (5, (.v (.int .i64 b162_), []))], [], []⟩ _ (by kernel_rfl) (.cons (at_obl (c := GCell.c) (GCell.c_eq c166_) GCell.c_len h150) (.cons (len_ok 1 [.int .i64 c166_.gTo, .sl (List.map cI.i64 c166_.gKids)]) .nil)) ?_
              refine Wc.region [] [] [0, 1, 5] [] [] ⟨[(0, (.v (.sl (List.map GCell.c d159_)), [])), (1, (.v (.int .i64 c166_.gTo), [])), (5, (.v (.int .i64 (wr.i64 (b162_ + 1))), []))], [], []⟩ _ (by kernel_rfl) .nil ?_
              exact ⟨_, Nat.lt_succ_self _, _, _, rfl, h142⟩
      · refine Wc.condF h143 (by kernel_rfl) ?_
        refine Wc.fix (st' := ⟨[], [], []⟩) [] [] [] [] (by kernel_rfl) ?_
        refine Wc.exit ?_
        obtain rfl := Option.some.inj h142
        exact ⟨rfl, rfl⟩
  · rintro st ⟨rfl, rfl⟩
    refine Wc.seq ?_
    refine Wc.region [] [] [4] [] [] ⟨[(4, (.v (.int .i64 (-1)), []))], [], []⟩ _ (by kernel_rfl) .nil ?_
    refine Wc.ret ?_
    obtain rfl := Option.some.inj h
    exact ⟨.inl rfl, by kernel_rfl, by kernel_rfl⟩

/-- spec.FollowCell -/
def pspec_FollowCell (k : Nat) (e167_ : GHeap) (b168_ : Int) : Option Int :=
  (pspec_l13Follow k e167_.gCells b168_).bind fun b169_ =>
  some b169_
theorem cspec_FollowCell {k : Nat} {e167_ : GHeap} {b168_ : Int} {r : Int} (h : pspec_FollowCell k e167_ b168_ = some r) : FnO Try.prog 132 [.v (.agg [.sl (List.map GCell.c e167_.gCells), .sl (List.map cI.i64 e167_.gTrail)]) [], .v (.int .i64 b168_) []] (.v (.int .i64 r) []) [] := by
  refine FnO.of Try.func132 (rfl : Try.f132.body = some _) (Nat.le_of_ble_eq_true (by kernel_rfl)) (Nat.le_of_ble_eq_true (by kernel_rfl)) ?_
  intro w0 X0 Fin pv0 pb
  unfold pspec_FollowCell at h
  refine Wc.seq ?_
  refine Wc.region [] [] [1, 2] [2] [] ⟨[(1, (.v (.int .i64 b168_), [])), (2, (.ptr 2 0, []))], [(2, .cells [.sl (List.map GCell.c e167_.gCells), .sl (List.map cI.i64 e167_.gTrail)] [])], []⟩ _ (by kernel_rfl) .nil ?_
  refine Wc.seq ?_
  obtain ⟨b169_, h151, h⟩ := obind h
  refine Wc.region [{}, {}, {}, { r := some (.v (.int .i64 b169_) []) }] [] [4] [] [] ⟨[(4, (.v (.int .i64 b169_), []))], [], []⟩ _ (by kernel_rfl) (.cons (cspec_l13Follow h151) .nil) ?_
  refine Wc.ret ?_
  obtain rfl := Option.some.inj h
  exact ⟨.inl rfl, by kernel_rfl, by kernel_rfl⟩

def pspec_HeapOk_L3 (k : Nat) (c172_ : GCell) (e170_ : GHeap) : Nat → Int → Option (Out Bool Unit)
  | 0, _ => none
  | m + 1, b173_ =>
    if (decide (b173_ < (c172_.gKids.length : Int))) = true then
      (at' c172_.gKids b173_).bind fun b174_ =>
      (pspec_l01In k b174_ 0 (wr.i64 ((e170_.gCells.length : Int) - 1))).bind fun i175_ =>
      if (!i175_) = true then
        some (.ret false)
      else
        pspec_HeapOk_L3 k c172_ e170_ m (wr.i64 (b173_ + 1))
    else
      some (.done ())
def pspec_HeapOk_L4 (k : Nat) (b171_ : Int) (c172_ : GCell) (e170_ : GHeap) : Nat → Int → Option (Out Bool Unit)
  | 0, _ => none
  | m + 1, b176_ =>
    if (decide (b176_ < b171_)) = true then
      if (c172_.gKind == 1) = true then
        (at' e170_.gCells b176_).bind fun c177_ =>
        if (c177_.gKind == 1) = true then
          (at' e170_.gCells b176_).bind fun c178_ =>
          if (c178_.gNum == c172_.gNum) = true then
            some (.ret false)
          else
            pspec_HeapOk_L4 k b171_ c172_ e170_ m (wr.i64 (b176_ + 1))
        else
          pspec_HeapOk_L4 k b171_ c172_ e170_ m (wr.i64 (b176_ + 1))
      else
        some (.done ())
    else
      some (.done ())
def pspec_HeapOk_J2 (k : Nat) (bk_ : Int → Option (Out Bool Unit)) (c172_ : GCell) (e170_ : GHeap) (b171_ : Int) : Option (Out Bool Unit) :=
  (pspec_HeapOk_L3 k c172_ e170_ k 0).bind fun out3 => match out3 with
  | .ret r => some (.ret r)
  | .done () =>
    (pspec_HeapOk_L4 k b171_ c172_ e170_ k 0).bind fun out4 => match out4 with
    | .ret r => some (.ret r)
    | .done () =>
      bk_ (wr.i64 (b171_ + 1))
def pspec_HeapOk_L1 (k : Nat) (e170_ : GHeap) : Nat → Int → Option (Out Bool Unit)
  | 0, _ => none
  | m + 1, b171_ =>
    if (decide (b171_ < (e170_.gCells.length : Int))) = true then
      (at' e170_.gCells b171_).bind fun c172_ =>
      (pspec_l01In k c172_.gKind 1 4).bind fun i179_ =>
      if (!i179_) = true then
        some (.ret false)
      else
        if (c172_.gKind == 1) = true then
          (pspec_l01In k c172_.gTo (-1) (wr.i64 ((e170_.gCells.length : Int) - 1))).bind fun i180_ =>
          if (!i180_) = true then
            some (.ret false)
          else
            (pspec_FollowCell k e170_ b171_).bind fun b181_ =>
            if (decide (b181_ < 0)) = true then
              some (.ret false)
            else
              pspec_HeapOk_J2 k (pspec_HeapOk_L1 k e170_ m) c172_ e170_ b171_
        else
          pspec_HeapOk_J2 k (pspec_HeapOk_L1 k e170_ m) c172_ e170_ b171_
    else
      some (.done ())
def pspec_HeapOk_L5 (k : Nat) (e170_ : GHeap) : Nat → Int → Option (Out Bool Unit)
  | 0, _ => none
  | m + 1, b182_ =>
    if (decide (b182_ < (e170_.gTrail.length : Int))) = true then
      (at' e170_.gTrail b182_).bind fun b183_ =>
      (pspec_l01In k b183_ 0 (wr.i64 ((e170_.gCells.length : Int) - 1))).bind fun i184_ =>
      if (!i184_) = true then
        some (.ret false)
      else
        (at' e170_.gTrail b182_).bind fun b185_ =>
        (at' e170_.gCells b185_).bind fun c186_ =>
        if (c186_.gKind != 1) = true then
          some (.ret false)
        else
          pspec_HeapOk_L5 k e170_ m (wr.i64 (b182_ + 1))
    else
      some (.done ())
/-- spec.HeapOk -/
def pspec_HeapOk (k : Nat) (e170_ : GHeap) : Option Bool :=
  if (decide ((e170_.gCells.length : Int) > 60000)) = true then
    some false
  else
    (pspec_HeapOk_L1 k e170_ k 0).bind fun out1 => match out1 with
    | .ret r => some r
    | .done () =>
      (pspec_HeapOk_L5 k e170_ k 0).bind fun out5 => match out5 with
      | .ret r => some r
      | .done () =>
        some true
set_option maxHeartbeats 4000000 in
theorem cspec_HeapOk {k : Nat} {e170_ : GHeap} {r : Bool} (h : pspec_HeapOk k e170_ = some r) : FnO Try.prog 113 [.v (.agg [.sl (List.map GCell.c e170_.gCells), .sl (List.map cI.i64 e170_.gTrail)]) []] (.v (.bool r) []) [] := by
  refine FnO.of Try.func113 (rfl : Try.f113.body = some _) (Nat.le_of_ble_eq_true (by kernel_rfl)) (Nat.le_of_ble_eq_true (by kernel_rfl)) ?_
  intro w0 X0 Fin pv0 pb
  unfold pspec_HeapOk at h
  refine Wc.seq ?_
  refine Wc.region [] [] [1] [1] [] ⟨[(1, (.ptr 1 0, []))], [(1, .cells [.sl (List.map GCell.c e170_.gCells), .sl (List.map cI.i64 e170_.gTrail)] [])], []⟩ _ (by kernel_rfl) .nil ?_
  refine Wc.seq ?_
  refine Wc.region [{}, {}, { v := some (.int .i64 (e170_.gCells.length : Int)) }] [] [1, 3] [1] [] ⟨[(1, (.ptr 1 0, [])), (3, (.v (.int .i64 (e170_.gCells.length : Int)), []))], [(1, .cells [.sl (List.map GCell.c e170_.gCells), .sl (List.map cI.i64 e170_.gTrail)] [])], []⟩ _ (by kernel_rfl) (.cons (len_obl GCell.c e170_.gCells) .nil) ?_
  refine Wc.seq ?_
  refine Wc.seq ?_
  refine Wc.region [] [] [1, 3, 13] [1] [] ⟨[(1, (.ptr 1 0, [])), (3, (.v (.int .i64 (e170_.gCells.length : Int)), [])), (13, (.v (.bool (decide ((e170_.gCells.length : Int) > 60000))), []))], [(1, .cells [.sl (List.map GCell.c e170_.gCells), .sl (List.map cI.i64 e170_.gTrail)] [])], []⟩ _ (by kernel_rfl) .nil ?_
  rcases oif h with ⟨h152, h⟩ | ⟨h152, h⟩
  · refine Wc.condT h152 (by kernel_rfl) ?_
    refine Wc.seq ?_
    refine Wc.region [] [] [2] [] [] ⟨[(2, (.v (.bool false), []))], [], []⟩ _ (by kernel_rfl) .nil ?_
    refine Wc.ret ?_
    obtain rfl := Option.some.inj h
    exact ⟨.inl rfl, by kernel_rfl, by kernel_rfl⟩
  · refine Wc.condF h152 (by kernel_rfl) ?_
    refine Wc.fix (st' := ⟨[(1, (.ptr 1 0, [])), (3, (.v (.int .i64 (e170_.gCells.length : Int)), []))], [(1, .cells [.sl (List.map GCell.c e170_.gCells), .sl (List.map cI.i64 e170_.gTrail)] [])], []⟩) [] [1, 3] [1] [] (by kernel_rfl) ?_
    refine Wc.skip ?_
    refine Wc.seq ?_
    refine Wc.seq ?_
    refine Wc.region [] [] [1, 3, 4] [1] [] ⟨[(1, (.ptr 1 0, [])), (3, (.v (.int .i64 (e170_.gCells.length : Int)), [])), (4, (.v (.int .i64 0), []))], [(1, .cells [.sl (List.map GCell.c e170_.gCells), .sl (List.map cI.i64 e170_.gTrail)] [])], []⟩ _ (by kernel_rfl) .nil ?_
    obtain ⟨out1, h153, h⟩ := obind h
    refine Wc.lastJ (fun st => out1 = .done () ∧ st = ⟨[(1, (.ptr 1 0, [])), (3, (.v (.int .i64 (e170_.gCells.length : Int)), []))], [(1, .cells [.sl (List.map GCell.c e170_.gCells), .sl (List.map cI.i64 e170_.gTrail)] [])], []⟩) ?_ ?_
    · refine Wc.block ?_
      refine Wc.loop (fun m st => ∃ (b171_ : Int), st = ⟨[(1, (.ptr 1 0, [])), (3, (.v (.int .i64 (e170_.gCells.length : Int)), [])), (4, (.v (.int .i64 b171_), []))], [(1, .cells [.sl (List.map GCell.c e170_.gCells), .sl (List.map cI.i64 e170_.gTrail)] [])], []⟩ ∧ pspec_HeapOk_L1 k e170_ m b171_ = some out1) ?_ k ⟨_, rfl, h153⟩
      rintro m st ⟨b171_, rfl, h153⟩
      cases m with
      | zero => exact (onone h153).elim
      | succ m =>
        refine Wc.seq ?_
        refine Wc.seq ?_
        refine Wc.region [] [] [1, 3, 4, 16] [1] [] ⟨[(1, (.ptr 1 0, [])), (3, (.v (.int .i64 (e170_.gCells.length : Int)), [])), (4, (.v (.int .i64 b171_), [])), (16, (.v (.bool (decide (b171_ < (e170_.gCells.length : Int)))), []))], [(1, .cells [.sl (List.map GCell.c e170_.gCells), .sl (List.map cI.i64 e170_.gTrail)] [])], []⟩ _ (by kernel_rfl) .nil ?_
        rcases oif h153 with ⟨h154, h153⟩ | ⟨h154, h153⟩
        · refine Wc.condT h154 (by kernel_rfl) ?_
          refine Wc.fix (st' := ⟨[(1, (.ptr 1 0, [])), (3, (.v (.int .i64 (e170_.gCells.length : Int)), [])), (4, (.v (.int .i64 b171_), []))], [(1, .cells [.sl (List.map GCell.c e170_.gCells), .sl (List.map cI.i64 e170_.gTrail)] [])], []⟩) [] [1, 3, 4] [1] [] (by kernel_rfl) ?_
          refine Wc.skip ?_
          refine Wc.seq ?_
          refine Wc.block ?_
          refine Wc.seq ?_
          obtain ⟨c172_, h155, h153⟩ := obind h153
          refine Wc.region [{}, {}, {}, { v := some (.vptr [.int .i64 c172_.gKind, .str c172_.gName, .int .i64 c172_.gNum, .int .i64 c172_.gTo, .sl (List.map cI.i64 c172_.gKids)]) }] [] [1, 3, 4, 5] [1, 5] [] ⟨[(1, (.ptr 1 0, [])), (3, (.v (.int .i64 (e170_.gCells.length : Int)), [])), (4, (.v (.int .i64 b171_), [])), (5, (.ptr 5 0, []))], [(1, .cells [.sl (List.map GCell.c e170_.gCells), .sl (List.map cI.i64 e170_.gTrail)] []), (5, .cells [.int .i64 c172_.gKind, .str c172_.gName, .int .i64 c172_.gNum, .int .i64 c172_.gTo, .sl (List.map cI.i64 c172_.gKids)] [])], []⟩ _ (by kernel_rfl) (.cons (at_obl (c := GCell.c) (GCell.c_eq c172_) GCell.c_len h155) (.cons (len_ok 5 [.int .i64 c172_.gKind, .str c172_.gName, .int .i64 c172_.gNum, .int .i64 c172_.gTo, .sl (List.map cI.i64 c172_.gKids)]) .nil)) ?_
          refine Wc.seqJ (fun st => st = ⟨[(1, (.ptr 1 0, [])), (3, (.v (.int .i64 (e170_.gCells.length : Int)), [])), (4, (.v (.int .i64 b171_), [])), (5, (.ptr 5 0, []))], [(1, .cells [.sl (List.map GCell.c e170_.gCells), .sl (List.map cI.i64 e170_.gTrail)] []), (5, .cells [.int .i64 c172_.gKind, .str c172_.gName, .int .i64 c172_.gNum, .int .i64 c172_.gTo, .sl (List.map cI.i64 c172_.gKids)] [])], []⟩ ∧ pspec_HeapOk_J2 k (pspec_HeapOk_L1 k e170_ m) c172_ e170_ b171_ = some out1) ?_ ?_
          · refine Wc.seq ?_
            obtain ⟨i179_, h168, h153⟩ := obind h153
            rcases oif h153 with ⟨h169, h153⟩ | ⟨h169, h153⟩
            · refine Wc.region [{}, {}, { r := some (.v (.bool i179_) []) }, {}, { re := some (.bool true) }] [] [1, 3, 4, 5, 46] [1, 5] [] ⟨[(1, (.ptr 1 0, [])), (3, (.v (.int .i64 (e170_.gCells.length : Int)), [])), (4, (.v (.int .i64 b171_), [])), (5, (.ptr 5 0, [])), (46, (.v (.bool true), []))], [(1, .cells [.sl (List.map GCell.c e170_.gCells), .sl (List.map cI.i64 e170_.gTrail)] []), (5, .cells [.int .i64 c172_.gKind, .str c172_.gName, .int .i64 c172_.gNum, .int .i64 c172_.gTo, .sl (List.map cI.i64 c172_.gKids)] [])], []⟩ _ (by kernel_rfl) (.cons (cspec_l01In h168) (.cons (congrArg AV.bool h169) .nil)) ?_
              refine Wc.condT rfl (by kernel_rfl) ?_
              refine Wc.seq ?_
              refine Wc.region [] [] [2] [] [] ⟨[(2, (.v (.bool false), []))], [], []⟩ _ (by kernel_rfl) .nil ?_
              refine Wc.ret ?_
              obtain rfl := Option.some.inj h153
              obtain rfl := Option.some.inj h
              exact ⟨.inl rfl, by kernel_rfl, by kernel_rfl⟩
            · rcases oif h153 with ⟨h170, h153⟩ | ⟨h170, h153⟩
              · obtain ⟨i180_, h171, h153⟩ := obind h153
                rcases oif h153 with ⟨h172, h153⟩ | ⟨h172, h153⟩
                · refine Wc.region [{}, {}, { r := some (.v (.bool i179_) []) }, {}, { re := some (.bool false) }, {}, {}, {}, { re := some (.bool true) }, {}, {}, {}, {}, { r := some (.v (.bool i180_) []) }, {}, { re := some (.bool true) }] [] [1, 3, 4, 5, 46] [1, 5] [] ⟨[(1, (.ptr 1 0, [])), (3, (.v (.int .i64 (e170_.gCells.length : Int)), [])), (4, (.v (.int .i64 b171_), [])), (5, (.ptr 5 0, [])), (46, (.v (.bool true), []))], [(1, .cells [.sl (List.map GCell.c e170_.gCells), .sl (List.map cI.i64 e170_.gTrail)] []), (5, .cells [.int .i64 c172_.gKind, .str c172_.gName, .int .i64 c172_.gNum, .int .i64 c172_.gTo, .sl (List.map cI.i64 c172_.gKids)] [])], []⟩ _ (by kernel_rfl) (.cons (cspec_l01In h168) (.cons (congrArg AV.bool h169) (.cons (congrArg AV.bool h170) (.cons (cspec_l01In h171) (.cons (congrArg AV.bool h172) .nil))))) ?_
                  refine Wc.condT rfl (by kernel_rfl) ?_
                  refine Wc.seq ?_
                  refine Wc.region [] [] [2] [] [] ⟨[(2, (.v (.bool false), []))], [], []⟩ _ (by kernel_rfl) .nil ?_
                  refine Wc.ret ?_
                  obtain rfl := Option.some.inj h153
                  obtain rfl := Option.some.inj h
                  exact ⟨.inl rfl, by kernel_rfl, by kernel_rfl⟩
                · obtain ⟨b181_, h173, h153⟩ := obind h153
                  refine Wc.region [{}, {}, { r := some (.v (.bool i179_) []) }, {}, { re := some (.bool false) }, {}, {}, {}, { re := some (.bool true) }, {}, {}, {}, {}, { r := some (.v (.bool i180_) []) }, {}, { re := some (.bool false) }, {}, {}, { r := some (.v (.int .i64 b181_) []) }] [] [1, 3, 4, 5, 46] [1, 5] [] ⟨[(1, (.ptr 1 0, [])), (3, (.v (.int .i64 (e170_.gCells.length : Int)), [])), (4, (.v (.int .i64 b171_), [])), (5, (.ptr 5 0, [])), (46, (.v (.bool (decide (b181_ < 0))), []))], [(1, .cells [.sl (List.map GCell.c e170_.gCells), .sl (List.map cI.i64 e170_.gTrail)] []), (5, .cells [.int .i64 c172_.gKind, .str c172_.gName, .int .i64 c172_.gNum, .int .i64 c172_.gTo, .sl (List.map cI.i64 c172_.gKids)] [])], []⟩ _ (by kernel_rfl) (.cons (cspec_l01In h168) (.cons (congrArg AV.bool h169) (.cons (congrArg AV.bool h170) (.cons (cspec_l01In h171) (.cons (congrArg AV.bool h172) (.cons (cspec_FollowCell h173) .nil)))))) ?_
                  rcases oif h153 with ⟨h174, h153⟩ | ⟨h174, h153⟩
                  · refine Wc.condT h174 (by kernel_rfl) ?_
                    refine Wc.seq ?_
                    refine Wc.region [] [] [2] [] [] ⟨[(2, (.v (.bool false), []))], [], []⟩ _ (by kernel_rfl) .nil ?_
                    refine Wc.ret ?_
                    obtain rfl := Option.some.inj h153
                    obtain rfl := Option.some.inj h
                    exact ⟨.inl rfl, by kernel_rfl, by kernel_rfl⟩
                  · refine Wc.condF h174 (by kernel_rfl) ?_
                    refine Wc.fix (st' := ⟨[(1, (.ptr 1 0, [])), (3, (.v (.int .i64 (e170_.gCells.length : Int)), [])), (4, (.v (.int .i64 b171_), [])), (5, (.ptr 5 0, []))], [(1, .cells [.sl (List.map GCell.c e170_.gCells), .sl (List.map cI.i64 e170_.gTrail)] []), (5, .cells [.int .i64 c172_.gKind, .str c172_.gName, .int .i64 c172_.gNum, .int .i64 c172_.gTo, .sl (List.map cI.i64 c172_.gKids)] [])], []⟩) [] [1, 3, 4, 5] [1, 5] [] (by kernel_rfl) ?_
                    refine Wc.skip ?_
                    exact ⟨rfl, h153⟩
              · refine Wc.region [{}, {}, { r := some (.v (.bool i179_) []) }, {}, { re := some (.bool false) }, {}, {}, {}, { re := some (.bool false) }] [] [1, 3, 4, 5, 46] [1, 5] [] ⟨[(1, (.ptr 1 0, [])), (3, (.v (.int .i64 (e170_.gCells.length : Int)), [])), (4, (.v (.int .i64 b171_), [])), (5, (.ptr 5 0, [])), (46, (.v (.bool false), []))], [(1, .cells [.sl (List.map GCell.c e170_.gCells), .sl (List.map cI.i64 e170_.gTrail)] []), (5, .cells [.int .i64 c172_.gKind, .str c172_.gName, .int .i64 c172_.gNum, .int .i64 c172_.gTo, .sl (List.map cI.i64 c172_.gKids)] [])], []⟩ _ (by kernel_rfl) (.cons (cspec_l01In h168) (.cons (congrArg AV.bool h169) (.cons (congrArg AV.bool h170) .nil))) ?_
                refine Wc.condF rfl (by kernel_rfl) ?_
                refine Wc.fix (st' := ⟨[(1, (.ptr 1 0, [])), (3, (.v (.int .i64 (e170_.gCells.length : Int)), [])), (4, (.v (.int .i64 b171_), [])), (5, (.ptr 5 0, []))], [(1, .cells [.sl (List.map GCell.c e170_.gCells), .sl (List.map cI.i64 e170_.gTrail)] []), (5, .cells [.int .i64 c172_.gKind, .str c172_.gName, .int .i64 c172_.gNum, .int .i64 c172_.gTo, .sl (List.map cI.i64 c172_.gKids)] [])], []⟩) [] [1, 3, 4, 5] [1, 5] [] (by kernel_rfl) ?_
                refine Wc.skip ?_
                exact ⟨rfl, h153⟩
          · rintro st ⟨rfl, h153⟩
            refine Wc.seq ?_
            refine Wc.seq ?_
            refine Wc.region [] [] [1, 3, 4, 5, 6] [1, 5] [] ⟨[(1, (.ptr 1 0, [])), (3, (.v (.int .i64 (e170_.gCells.length : Int)), [])), (4, (.v (.int .i64 b171_), [])), (5, (.ptr 5 0, [])), (6, (.v (.int .i64 0), []))], [(1, .cells [.sl (List.map GCell.c e170_.gCells), .sl (List.map cI.i64 e170_.gTrail)] []), (5, .cells [.int .i64 c172_.gKind, .str c172_.gName, .int .i64 c172_.gNum, .int .i64 c172_.gTo, .sl (List.map cI.i64 c172_.gKids)] [])], []⟩ _ (by kernel_rfl) .nil ?_
            obtain ⟨out3, h156, h153⟩ := obind h153
            refine Wc.lastJ (fun st => out3 = .done () ∧ st = ⟨[(1, (.ptr 1 0, [])), (3, (.v (.int .i64 (e170_.gCells.length : Int)), [])), (4, (.v (.int .i64 b171_), [])), (5, (.ptr 5 0, []))], [(1, .cells [.sl (List.map GCell.c e170_.gCells), .sl (List.map cI.i64 e170_.gTrail)] []), (5, .cells [.int .i64 c172_.gKind, .str c172_.gName, .int .i64 c172_.gNum, .int .i64 c172_.gTo, .sl (List.map cI.i64 c172_.gKids)] [])], []⟩) ?_ ?_
            · refine Wc.block ?_
              refine Wc.loop (fun m st => ∃ (b173_ : Int), st = ⟨[(1, (.ptr 1 0, [])), (3, (.v (.int .i64 (e170_.gCells.length : Int)), [])), (4, (.v (.int .i64 b171_), [])), (5, (.ptr 5 0, [])), (6, (.v (.int .i64 b173_), []))], [(1, .cells [.sl (List.map GCell.c e170_.gCells), .sl (List.map cI.i64 e170_.gTrail)] []), (5, .cells [.int .i64 c172_.gKind, .str c172_.gName, .int .i64 c172_.gNum, .int .i64 c172_.gTo, .sl (List.map cI.i64 c172_.gKids)] [])], []⟩ ∧ pspec_HeapOk_L3 k c172_ e170_ m b173_ = some out3) ?_ k ⟨_, rfl, h156⟩
              rintro m st ⟨b173_, rfl, h156⟩
              cases m with
              | zero => exact (onone h156).elim
              | succ m =>
                refine Wc.seq ?_
                refine Wc.seq ?_
                refine Wc.region [{}, {}, {}, { v := some (.int .i64 (c172_.gKids.length : Int)) }] [] [1, 3, 4, 5, 6, 51] [1, 5] [] ⟨[(1, (.ptr 1 0, [])), (3, (.v (.int .i64 (e170_.gCells.length : Int)), [])), (4, (.v (.int .i64 b171_), [])), (5, (.ptr 5 0, [])), (6, (.v (.int .i64 b173_), [])), (51, (.v (.bool (decide (b173_ < (c172_.gKids.length : Int)))), []))], [(1, .cells [.sl (List.map GCell.c e170_.gCells), .sl (List.map cI.i64 e170_.gTrail)] []), (5, .cells [.int .i64 c172_.gKind, .str c172_.gName, .int .i64 c172_.gNum, .int .i64 c172_.gTo, .sl (List.map cI.i64 c172_.gKids)] [])], []⟩ _ (by kernel_rfl) (.cons (len_obl cI.i64 c172_.gKids) .nil) ?_
                rcases oif h156 with ⟨h157, h156⟩ | ⟨h157, h156⟩
                · refine Wc.condT h157 (by kernel_rfl) ?_
                  refine Wc.fix (st' := ⟨[(1, (.ptr 1 0, [])), (3, (.v (.int .i64 (e170_.gCells.length : Int)), [])), (4, (.v (.int .i64 b171_), [])), (5, (.ptr 5 0, [])), (6, (.v (.int .i64 b173_), []))], [(1, .cells [.sl (List.map GCell.c e170_.gCells), .sl (List.map cI.i64 e170_.gTrail)] []), (5, .cells [.int .i64 c172_.gKind, .str c172_.gName, .int .i64 c172_.gNum, .int .i64 c172_.gTo, .sl (List.map cI.i64 c172_.gKids)] [])], []⟩) [] [1, 3, 4, 5, 6] [1, 5] [] (by kernel_rfl) ?_
                  refine Wc.skip ?_
                  refine Wc.seq ?_
                  refine Wc.block ?_
                  refine Wc.seq ?_
                  obtain ⟨b174_, h158, h156⟩ := obind h156
                  obtain ⟨i175_, h159, h156⟩ := obind h156
                  refine Wc.region [{}, {}, {}, { v := some (.vptr [.int .i64 b174_]) }, {}, {}, {}, { r := some (.v (.bool i175_) []) }] [] [1, 3, 4, 5, 6, 62] [1, 5] [] ⟨[(1, (.ptr 1 0, [])), (3, (.v (.int .i64 (e170_.gCells.length : Int)), [])), (4, (.v (.int .i64 b171_), [])), (5, (.ptr 5 0, [])), (6, (.v (.int .i64 b173_), [])), (62, (.v (.bool (!i175_)), []))], [(1, .cells [.sl (List.map GCell.c e170_.gCells), .sl (List.map cI.i64 e170_.gTrail)] []), (5, .cells [.int .i64 c172_.gKind, .str c172_.gName, .int .i64 c172_.gNum, .int .i64 c172_.gTo, .sl (List.map cI.i64 c172_.gKids)] [])], []⟩ _ (by kernel_rfl) (.cons (at_obl (c := cI.i64) rfl cI.i64_len h158) (.cons (len_ok 1 [.int .i64 b174_]) (.cons (cspec_l01In h159) .nil))) ?_
                  rcases oif h156 with ⟨h160, h156⟩ | ⟨h160, h156⟩
                  · refine Wc.condT h160 (by kernel_rfl) ?_
                    refine Wc.seq ?_
                    refine Wc.region [] [] [2] [] [] ⟨[(2, (.v (.bool false), []))], [], []⟩ _ (by kernel_rfl) .nil ?_
                    refine Wc.ret ?_
                    obtain rfl := Option.some.inj h156
                    obtain rfl := Option.some.inj h153
                    obtain rfl := Option.some.inj h
                    exact ⟨.inl rfl, by kernel_rfl, by kernel_rfl⟩
                  · refine Wc.condF h160 (by kernel_rfl) ?_
                    refine Wc.fix (st' := ⟨[(1, (.ptr 1 0, [])), (3, (.v (.int .i64 (e170_.gCells.length : Int)), [])), (4, (.v (.int .i64 b171_), [])), (5, (.ptr 5 0, [])), (6, (.v (.int .i64 b173_), []))], [(1, .cells [.sl (List.map GCell.c e170_.gCells), .sl (List.map cI.i64 e170_.gTrail)] []), (5, .cells [.int .i64 c172_.gKind, .str c172_.gName, .int .i64 c172_.gNum, .int .i64 c172_.gTo, .sl (List.map cI.i64 c172_.gKids)] [])], []⟩) [] [1, 3, 4, 5, 6] [1, 5] [] (by kernel_rfl) ?_
                    refine Wc.skip ?_
                    refine Wc.region [] [] [1, 3, 4, 5, 6] [1, 5] [] ⟨[(1, (.ptr 1 0, [])), (3, (.v (.int .i64 (e170_.gCells.length : Int)), [])), (4, (.v (.int .i64 b171_), [])), (5, (.ptr 5 0, [])), (6, (.v (.int .i64 (wr.i64 (b173_ + 1))), []))], [(1, .cells [.sl (List.map GCell.c e170_.gCells), .sl (List.map cI.i64 e170_.gTrail)] []), (5, .cells [.int .i64 c172_.gKind, .str c172_.gName, .int .i64 c172_.gNum, .int .i64 c172_.gTo, .sl (List.map cI.i64 c172_.gKids)] [])], []⟩ _ (by kernel_rfl) .nil ?_
                    exact ⟨_, Nat.lt_succ_self _, _, rfl, h156⟩
                · refine Wc.condF h157 (by kernel_rfl) ?_
                  refine Wc.fix (st' := ⟨[(1, (.ptr 1 0, [])), (3, (.v (.int .i64 (e170_.gCells.length : Int)), [])), (4, (.v (.int .i64 b171_), [])), (5, (.ptr 5 0, []))], [(1, .cells [.sl (List.map GCell.c e170_.gCells), .sl (List.map cI.i64 e170_.gTrail)] []), (5, .cells [.int .i64 c172_.gKind, .str c172_.gName, .int .i64 c172_.gNum, .int .i64 c172_.gTo, .sl (List.map cI.i64 c172_.gKids)] [])], []⟩) [] [1, 3, 4, 5] [1, 5] [] (by kernel_rfl) ?_
                  refine Wc.exit ?_
                  obtain rfl := Option.some.inj h156
                  exact ⟨rfl, rfl⟩
            · rintro st ⟨rfl, rfl⟩
              refine Wc.seq ?_
              refine Wc.region [] [] [1, 3, 4, 5, 7] [1, 5] [] ⟨[(1, (.ptr 1 0, [])), (3, (.v (.int .i64 (e170_.gCells.length : Int)), [])), (4, (.v (.int .i64 b171_), [])), (5, (.ptr 5 0, [])), (7, (.v (.int .i64 0), []))], [(1, .cells [.sl (List.map GCell.c e170_.gCells), .sl (List.map cI.i64 e170_.gTrail)] []), (5, .cells [.int .i64 c172_.gKind, .str c172_.gName, .int .i64 c172_.gNum, .int .i64 c172_.gTo, .sl (List.map cI.i64 c172_.gKids)] [])], []⟩ _ (by kernel_rfl) .nil ?_
              obtain ⟨out4, h161, h153⟩ := obind h153
              refine Wc.lastJ (fun st => out4 = .done () ∧ st = ⟨[(1, (.ptr 1 0, [])), (3, (.v (.int .i64 (e170_.gCells.length : Int)), [])), (4, (.v (.int .i64 b171_), []))], [(1, .cells [.sl (List.map GCell.c e170_.gCells), .sl (List.map cI.i64 e170_.gTrail)] [])], []⟩) ?_ ?_
              · refine Wc.block ?_
                refine Wc.loop (fun m st => ∃ (b176_ : Int), st = ⟨[(1, (.ptr 1 0, [])), (3, (.v (.int .i64 (e170_.gCells.length : Int)), [])), (4, (.v (.int .i64 b171_), [])), (5, (.ptr 5 0, [])), (7, (.v (.int .i64 b176_), []))], [(1, .cells [.sl (List.map GCell.c e170_.gCells), .sl (List.map cI.i64 e170_.gTrail)] []), (5, .cells [.int .i64 c172_.gKind, .str c172_.gName, .int .i64 c172_.gNum, .int .i64 c172_.gTo, .sl (List.map cI.i64 c172_.gKids)] [])], []⟩ ∧ pspec_HeapOk_L4 k b171_ c172_ e170_ m b176_ = some out4) ?_ k ⟨_, rfl, h161⟩
                rintro m st ⟨b176_, rfl, h161⟩
                cases m with
                | zero => exact (onone h161).elim
                | succ m =>
                  refine Wc.seq ?_
                  refine Wc.seq ?_
                  rcases oif h161 with ⟨h162, h161⟩ | ⟨h162, h161⟩
                  · refine Wc.region [{}, {}, {}, { re := some (.bool true) }] [] [1, 3, 4, 5, 7, 70] [1, 5] [] ⟨[(1, (.ptr 1 0, [])), (3, (.v (.int .i64 (e170_.gCells.length : Int)), [])), (4, (.v (.int .i64 b171_), [])), (5, (.ptr 5 0, [])), (7, (.v (.int .i64 b176_), [])), (70, (.v (.bool (c172_.gKind == 1)), []))], [(1, .cells [.sl (List.map GCell.c e170_.gCells), .sl (List.map cI.i64 e170_.gTrail)] []), (5, .cells [.int .i64 c172_.gKind, .str c172_.gName, .int .i64 c172_.gNum, .int .i64 c172_.gTo, .sl (List.map cI.i64 c172_.gKids)] [])], []⟩ _ (by kernel_rfl) (.cons (congrArg AV.bool h162) .nil) ?_
                    rcases oif h161 with ⟨h163, h161⟩ | ⟨h163, h161⟩
                    · refine Wc.condT h163 (by kernel_rfl) ?_
                      refine Wc.fix (st' := ⟨[(1, (.ptr 1 0, [])), (3, (.v (.int .i64 (e170_.gCells.length : Int)), [])), (4, (.v (.int .i64 b171_), [])), (5, (.ptr 5 0, [])), (7, (.v (.int .i64 b176_), []))], [(1, .cells [.sl (List.map GCell.c e170_.gCells), .sl (List.map cI.i64 e170_.gTrail)] []), (5, .cells [.int .i64 c172_.gKind, .str c172_.gName, .int .i64 c172_.gNum, .int .i64 c172_.gTo, .sl (List.map cI.i64 c172_.gKids)] [])], []⟩) [] [1, 3, 4, 5, 7] [1, 5] [] (by kernel_rfl) ?_
                      refine Wc.skip ?_
                      refine Wc.seq ?_
                      refine Wc.block ?_
                      refine Wc.seq ?_
                      obtain ⟨c177_, h164, h161⟩ := obind h161
                      rcases oif h161 with ⟨h165, h161⟩ | ⟨h165, h161⟩
                      · obtain ⟨c178_, h166, h161⟩ := obind h161
                        refine Wc.draw hmix [{}, {}, {}, { v := some (.vptr [.int .i64 c177_.gKind, .str c177_.gName, .int .i64 c177_.gNum, .int .i64 c177_.gTo, .sl (List.map cI.i64 c177_.gKids)]) }, {}, {}, {}, { re := some (.bool true) }, {}, {}, {}, { v := some (.vptr [.int .i64 c178_.gKind, .str c178_.gName, .int .i64 c178_.gNum, .int .i64 c178_.gTo, .sl (List.map cI.i64 c178_.gKids)]) }] [] [1, 3, 4, 5, 7, 90] [1, 5] [] ⟨[(1, (.ptr 1 0, [])), (3, (.v (.int .i64 (e170_.gCells.length : Int)), [])), (4, (.v (.int .i64 b171_), [])), (5, (.ptr 5 0, [])), (7, (.v (.int .i64 b176_), [])), (90, (.v (.bool (c178_.gNum == c172_.gNum)), []))], [(1, .cells [.sl (List.map GCell.c e170_.gCells), .sl (List.map cI.i64 e170_.gTrail)] []), (5, .cells [.int .i64 c172_.gKind, .str c172_.gName, .int .i64 c172_.gNum, .int .i64 c172_.gTo, .sl (List.map cI.i64 c172_.gKids)] [])], []⟩ _ (by kernel_rfl) (fun X => by kernel_rfl) (.cons (at_obl (c := GCell.c) (GCell.c_eq c177_) GCell.c_len h164) (.cons (len_ok 1 [.int .i64 c177_.gKind, .str c177_.gName, .int .i64 c177_.gNum, .int .i64 c177_.gTo, .sl (List.map cI.i64 c177_.gKids)]) (.cons (congrArg AV.bool h165) (.cons (at_obl (c := GCell.c) (GCell.c_eq c178_) GCell.c_len h166) (.cons (len_ok 1 [.int .i64 c178_.gNum, .int .i64 c178_.gTo, .sl (List.map cI.i64 c178_.gKids)]) .nil))))) ?_
                        rcases oif h161 with ⟨h167, h161⟩ | ⟨h167, h161⟩
                        · refine Wc.condT h167 (by kernel_rfl) ?_
                          refine Wc.seq ?_
                          refine Wc.region [] [] [2] [] [] ⟨[(2, (.v (.bool false), []))], [], []⟩ _ (by kernel_rfl) .nil ?_
                          refine Wc.ret ?_
                          obtain rfl := Option.some.inj h161
                          obtain rfl := Option.some.inj h153
                          obtain rfl := Option.some.inj h
                          exact ⟨.inl rfl, by kernel_rfl, by kernel_rfl⟩
                        · refine Wc.condF h167 (by kernel_rfl) ?_
                          refine Wc.fix (st' := ⟨[(1, (.ptr 1 0, [])), (3, (.v (.int .i64 (e170_.gCells.length : Int)), [])), (4, (.v (.int .i64 b171_), [])), (5, (.ptr 5 0, [])), (7, (.v (.int .i64 b176_), []))], [(1, .cells [.sl (List.map GCell.c e170_.gCells), .sl (List.map cI.i64 e170_.gTrail)] []), (5, .cells [.int .i64 c172_.gKind, .str c172_.gName, .int .i64 c172_.gNum, .int .i64 c172_.gTo, .sl (List.map cI.i64 c172_.gKids)] [])], []⟩) [] [1, 3, 4, 5, 7] [1, 5] [] (by kernel_rfl) ?_
                          refine Wc.skip ?_
                          refine Wc.region [] [] [1, 3, 4, 5, 7] [1, 5] [] ⟨[(1, (.ptr 1 0, [])), (3, (.v (.int .i64 (e170_.gCells.length : Int)), [])), (4, (.v (.int .i64 b171_), [])), (5, (.ptr 5 0, [])), (7, (.v (.int .i64 (wr.i64 (b176_ + 1))), []))], [(1, .cells [.sl (List.map GCell.c e170_.gCells), .sl (List.map cI.i64 e170_.gTrail)] []), (5, .cells [.int .i64 c172_.gKind, .str c172_.gName, .int .i64 c172_.gNum, .int .i64 c172_.gTo, .sl (List.map cI.i64 c172_.gKids)] [])], []⟩ _ (by kernel_rfl) .nil ?_
                          exact ⟨_, Nat.lt_succ_self _, _, rfl, h161⟩
                      · refine Wc.draw hmix [{}, {}, {}, { v := some (.vptr [.int .i64 c177_.gKind, .str c177_.gName, .int .i64 c177_.gNum, .int .i64 c177_.gTo, .sl (List.map cI.i64 c177_.gKids)]) }, {}, {}, {}, { re := some (.bool false) }] [] [1, 3, 4, 5, 7, 90] [1, 5] [] ⟨[(1, (.ptr 1 0, [])), (3, (.v (.int .i64 (e170_.gCells.length : Int)), [])), (4, (.v (.int .i64 b171_), [])), (5, (.ptr 5 0, [])), (7, (.v (.int .i64 b176_), [])), (90, (.v (.bool false), []))], [(1, .cells [.sl (List.map GCell.c e170_.gCells), .sl (List.map cI.i64 e170_.gTrail)] []), (5, .cells [.int .i64 c172_.gKind, .str c172_.gName, .int .i64 c172_.gNum, .int .i64 c172_.gTo, .sl (List.map cI.i64 c172_.gKids)] [])], []⟩ _ (by kernel_rfl) (fun X => by kernel_rfl) (.cons (at_obl (c := GCell.c) (GCell.c_eq c177_) GCell.c_len h164) (.cons (len_ok 1 [.int .i64 c177_.gKind, .str c177_.gName, .int .i64 c177_.gNum, .int .i64 c177_.gTo, .sl (List.map cI.i64 c177_.gKids)]) (.cons (congrArg AV.bool h165) .nil))) ?_
                        refine Wc.condF rfl (by kernel_rfl) ?_
                        refine Wc.fix (st' := ⟨[(1, (.ptr 1 0, [])), (3, (.v (.int .i64 (e170_.gCells.length : Int)), [])), (4, (.v (.int .i64 b171_), [])), (5, (.ptr 5 0, [])), (7, (.v (.int .i64 b176_), []))], [(1, .cells [.sl (List.map GCell.c e170_.gCells), .sl (List.map cI.i64 e170_.gTrail)] []), (5, .cells [.int .i64 c172_.gKind, .str c172_.gName, .int .i64 c172_.gNum, .int .i64 c172_.gTo, .sl (List.map cI.i64 c172_.gKids)] [])], []⟩) [] [1, 3, 4, 5, 7] [1, 5] [] (by kernel_rfl) ?_
                        refine Wc.skip ?_
                        refine Wc.region [] [] [1, 3, 4, 5, 7] [1, 5] [] ⟨[(1, (.ptr 1 0, [])), (3, (.v (.int .i64 (e170_.gCells.length : Int)), [])), (4, (.v (.int .i64 b171_), [])), (5, (.ptr 5 0, [])), (7, (.v (.int .i64 (wr.i64 (b176_ + 1))), []))], [(1, .cells [.sl (List.map GCell.c e170_.gCells), .sl (List.map cI.i64 e170_.gTrail)] []), (5, .cells [.int .i64 c172_.gKind, .str c172_.gName, .int .i64 c172_.gNum, .int .i64 c172_.gTo, .sl (List.map cI.i64 c172_.gKids)] [])], []⟩ _ (by kernel_rfl) .nil ?_
                        exact ⟨_, Nat.lt_succ_self _, _, rfl, h161⟩
                    · refine Wc.condF h163 (by kernel_rfl) ?_
                      refine Wc.fix (st' := ⟨[(1, (.ptr 1 0, [])), (3, (.v (.int .i64 (e170_.gCells.length : Int)), [])), (4, (.v (.int .i64 b171_), []))], [(1, .cells [.sl (List.map GCell.c e170_.gCells), .sl (List.map cI.i64 e170_.gTrail)] [])], []⟩) [] [1, 3, 4] [1] [] (by kernel_rfl) ?_
                      refine Wc.exit ?_
                      obtain rfl := Option.some.inj h161
                      exact ⟨rfl, rfl⟩
                  · refine Wc.region [{}, {}, {}, { re := some (.bool false) }] [] [1, 3, 4, 5, 7, 70] [1, 5] [] ⟨[(1, (.ptr 1 0, [])), (3, (.v (.int .i64 (e170_.gCells.length : Int)), [])), (4, (.v (.int .i64 b171_), [])), (5, (.ptr 5 0, [])), (7, (.v (.int .i64 b176_), [])), (70, (.v (.bool false), []))], [(1, .cells [.sl (List.map GCell.c e170_.gCells), .sl (List.map cI.i64 e170_.gTrail)] []), (5, .cells [.int .i64 c172_.gKind, .str c172_.gName, .int .i64 c172_.gNum, .int .i64 c172_.gTo, .sl (List.map cI.i64 c172_.gKids)] [])], []⟩ _ (by kernel_rfl) (.cons (congrArg AV.bool h162) .nil) ?_
                    refine Wc.condF rfl (by kernel_rfl) ?_
                    refine Wc.fix (st' := ⟨[(1, (.ptr 1 0, [])), (3, (.v (.int .i64 (e170_.gCells.length : Int)), [])), (4, (.v (.int .i64 b171_), []))], [(1, .cells [.sl (List.map GCell.c e170_.gCells), .sl (List.map cI.i64 e170_.gTrail)] [])], []⟩) [] [1, 3, 4] [1] [] (by kernel_rfl) ?_
                    refine Wc.exit ?_
                    obtain rfl := Option.some.inj h161
                    exact ⟨rfl, rfl⟩
              · rintro st ⟨rfl, rfl⟩
                refine Wc.region [] [] [1, 3, 4] [1] [] ⟨[(1, (.ptr 1 0, [])), (3, (.v (.int .i64 (e170_.gCells.length : Int)), [])), (4, (.v (.int .i64 (wr.i64 (b171_ + 1))), []))], [(1, .cells [.sl (List.map GCell.c e170_.gCells), .sl (List.map cI.i64 e170_.gTrail)] [])], []⟩ _ (by kernel_rfl) .nil ?_
                exact ⟨_, Nat.lt_succ_self _, _, rfl, h153⟩
        · refine Wc.condF h154 (by kernel_rfl) ?_
          refine Wc.fix (st' := ⟨[(1, (.ptr 1 0, [])), (3, (.v (.int .i64 (e170_.gCells.length : Int)), []))], [(1, .cells [.sl (List.map GCell.c e170_.gCells), .sl (List.map cI.i64 e170_.gTrail)] [])], []⟩) [] [1, 3] [1] [] (by kernel_rfl) ?_
          refine Wc.exit ?_
          obtain rfl := Option.some.inj h153
          exact ⟨rfl, rfl⟩
    · rintro st ⟨rfl, rfl⟩
      refine Wc.seq ?_
      refine Wc.seq ?_
      refine Wc.region [] [] [1, 3, 8] [1] [] ⟨[(1, (.ptr 1 0, [])), (3, (.v (.int .i64 (e170_.gCells.length : Int)), [])), (8, (.v (.int .i64 0), []))], [(1, .cells [.sl (List.map GCell.c e170_.gCells), .sl (List.map cI.i64 e170_.gTrail)] [])], []⟩ _ (by kernel_rfl) .nil ?_
      obtain ⟨out5, h175, h⟩ := obind h
      refine Wc.lastJ (fun st => out5 = .done () ∧ st = ⟨[], [], []⟩) ?_ ?_
      · refine Wc.block ?_
        refine Wc.loop (fun m st => ∃ (b182_ : Int), st = ⟨[(1, (.ptr 1 0, [])), (3, (.v (.int .i64 (e170_.gCells.length : Int)), [])), (8, (.v (.int .i64 b182_), []))], [(1, .cells [.sl (List.map GCell.c e170_.gCells), .sl (List.map cI.i64 e170_.gTrail)] [])], []⟩ ∧ pspec_HeapOk_L5 k e170_ m b182_ = some out5) ?_ k ⟨_, rfl, h175⟩
        rintro m st ⟨b182_, rfl, h175⟩
        cases m with
        | zero => exact (onone h175).elim
        | succ m =>
          refine Wc.seq ?_
          refine Wc.seq ?_
          refine Wc.region [{}, {}, {}, { v := some (.int .i64 (e170_.gTrail.length : Int)) }] [] [1, 3, 8, 95] [1] [] ⟨[(1, (.ptr 1 0, [])), (3, (.v (.int .i64 (e170_.gCells.length : Int)), [])), (8, (.v (.int .i64 b182_), [])), (95, (.v (.bool (decide (b182_ < (e170_.gTrail.length : Int)))), []))], [(1, .cells [.sl (List.map GCell.c e170_.gCells), .sl (List.map cI.i64 e170_.gTrail)] [])], []⟩ _ (by kernel_rfl) (.cons (len_obl cI.i64 e170_.gTrail) .nil) ?_
          rcases oif h175 with ⟨h176, h175⟩ | ⟨h176, h175⟩
          · refine Wc.condT h176 (by kernel_rfl) ?_
            refine Wc.fix (st' := ⟨[(1, (.ptr 1 0, [])), (3, (.v (.int .i64 (e170_.gCells.length : Int)), [])), (8, (.v (.int .i64 b182_), []))], [(1, .cells [.sl (List.map GCell.c e170_.gCells), .sl (List.map cI.i64 e170_.gTrail)] [])], []⟩) [] [1, 3, 8] [1] [] (by kernel_rfl) ?_
            refine Wc.skip ?_
            refine Wc.seq ?_
            refine Wc.block ?_
            refine Wc.seq ?_
            obtain ⟨b183_, h177, h175⟩ := obind h175
            obtain ⟨i184_, h178, h175⟩ := obind h175
            rcases oif h175 with ⟨h179, h175⟩ | ⟨h179, h175⟩
            · refine Wc.draw hmix [{}, {}, {}, { v := some (.vptr [.int .i64 b183_]) }, {}, {}, {}, { r := some (.v (.bool i184_) []) }, {}, { re := some (.bool true) }] [] [1, 3, 8, 119] [1] [] ⟨[(1, (.ptr 1 0, [])), (3, (.v (.int .i64 (e170_.gCells.length : Int)), [])), (8, (.v (.int .i64 b182_), [])), (119, (.v (.bool true), []))], [(1, .cells [.sl (List.map GCell.c e170_.gCells), .sl (List.map cI.i64 e170_.gTrail)] [])], []⟩ _ (by kernel_rfl) (fun X => by kernel_rfl) (.cons (at_obl (c := cI.i64) rfl cI.i64_len h177) (.cons (len_ok 1 [.int .i64 b183_]) (.cons (cspec_l01In h178) (.cons (congrArg AV.bool h179) .nil)))) ?_
              refine Wc.condT rfl (by kernel_rfl) ?_
              refine Wc.seq ?_
              refine Wc.region [] [] [2] [] [] ⟨[(2, (.v (.bool false), []))], [], []⟩ _ (by kernel_rfl) .nil ?_
              refine Wc.ret ?_
              obtain rfl := Option.some.inj h175
              obtain rfl := Option.some.inj h
              exact ⟨.inl rfl, by kernel_rfl, by kernel_rfl⟩
            · obtain ⟨b185_, h180, h175⟩ := obind h175
              obtain ⟨c186_, h181, h175⟩ := obind h175
              refine Wc.draw hmix [{}, {}, {}, { v := some (.vptr [.int .i64 b183_]) }, {}, {}, {}, { r := some (.v (.bool i184_) []) }, {}, { re := some (.bool false) }, {}, {}, {}, {}, {}, { v := some (.vptr [.int .i64 b185_]) }, {}, { v := some (.vptr [.int .i64 c186_.gKind, .str c186_.gName, .int .i64 c186_.gNum, .int .i64 c186_.gTo, .sl (List.map cI.i64 c186_.gKids)]) }] [] [1, 3, 8, 119] [1] [] ⟨[(1, (.ptr 1 0, [])), (3, (.v (.int .i64 (e170_.gCells.length : Int)), [])), (8, (.v (.int .i64 b182_), [])), (119, (.v (.bool (c186_.gKind != 1)), []))], [(1, .cells [.sl (List.map GCell.c e170_.gCells), .sl (List.map cI.i64 e170_.gTrail)] [])], []⟩ _ (by kernel_rfl) (fun X => by kernel_rfl) (.cons (at_obl (c := cI.i64) rfl cI.i64_len h177) (.cons (len_ok 1 [.int .i64 b183_]) (.cons (cspec_l01In h178) (.cons (congrArg AV.bool h179) (.cons (at_obl (c := cI.i64) rfl cI.i64_len h180) (.cons (len_ok 1 [.int .i64 b185_]) (.cons (at_obl (c := GCell.c) (GCell.c_eq c186_) GCell.c_len h181) (.cons (len_ok 1 [.int .i64 c186_.gKind, .str c186_.gName, .int .i64 c186_.gNum, .int .i64 c186_.gTo, .sl (List.map cI.i64 c186_.gKids)]) .nil)))))))) ?_
              rcases oif h175 with ⟨h182, h175⟩ | ⟨h182, h175⟩
              · refine Wc.condT h182 (by kernel_rfl) ?_
                refine Wc.seq ?_
                refine Wc.region [] [] [2] [] [] ⟨[(2, (.v (.bool false), []))], [], []⟩ _ (by kernel_rfl) .nil ?_
                refine Wc.ret ?_
                obtain rfl := Option.some.inj h175
                obtain rfl := Option.some.inj h
                exact ⟨.inl rfl, by kernel_rfl, by kernel_rfl⟩
              · refine Wc.condF h182 (by kernel_rfl) ?_
                refine Wc.fix (st' := ⟨[(1, (.ptr 1 0, [])), (3, (.v (.int .i64 (e170_.gCells.length : Int)), [])), (8, (.v (.int .i64 b182_), []))], [(1, .cells [.sl (List.map GCell.c e170_.gCells), .sl (List.map cI.i64 e170_.gTrail)] [])], []⟩) [] [1, 3, 8] [1] [] (by kernel_rfl) ?_
                refine Wc.skip ?_
                refine Wc.region [] [] [1, 3, 8] [1] [] ⟨[(1, (.ptr 1 0, [])), (3, (.v (.int .i64 (e170_.gCells.length : Int)), [])), (8, (.v (.int .i64 (wr.i64 (b182_ + 1))), []))], [(1, .cells [.sl (List.map GCell.c e170_.gCells), .sl (List.map cI.i64 e170_.gTrail)] [])], []⟩ _ (by kernel_rfl) .nil ?_
                exact ⟨_, Nat.lt_succ_self _, _, rfl, h175⟩
          · refine Wc.condF h176 (by kernel_rfl) ?_
            refine Wc.fix (st' := ⟨[], [], []⟩) [] [] [] [] (by kernel_rfl) ?_
            refine Wc.exit ?_
            obtain rfl := Option.some.inj h175
            exact ⟨rfl, rfl⟩
      · rintro st ⟨rfl, rfl⟩
        refine Wc.seq ?_
        refine Wc.region [] [] [2] [] [] ⟨[(2, (.v (.bool true), []))], [], []⟩ _ (by kernel_rfl) .nil ?_
        refine Wc.ret ?_
        obtain rfl := Option.some.inj h
        exact ⟨.inl rfl, by kernel_rfl, by kernel_rfl⟩

/-- (*spec.l13Heap).heap -/
def pspec_l13Heap_heap (k : Nat) (n188_ : GL13Heap) : Option (GL13Heap × GHeap) :=
  if ([] : List GCell).length + n188_.gCells.length ≤ 1073741824 then
    if ([] : List Int).length + n188_.gTrail.length ≤ 1073741824 then
      some (n188_, GHeap.mk n188_.gCells n188_.gTrail)
    else none
  else none
theorem cspec_l13Heap_heap {k : Nat} {n188_ : GL13Heap} {r : GL13Heap × GHeap} (h : pspec_l13Heap_heap k n188_ = some r) : FnO Try.prog 115 [.p [.slx, .slx, .slx, .int .i64 n188_.gPairs] [(0, .ex 110 false (List.map GCell.c n188_.gCells)), (1, .ex 3 false (List.map cI.i64 n188_.gTrail)), (2, .ex 3 false (List.map cI.i64 n188_.gRefs))]] (.v (.agg [.sl (List.map GCell.c r.2.gCells), .sl (List.map cI.i64 r.2.gTrail)]) [(0, .app 110), (1, .app 3)]) [(0, .p [.slx, .slx, .slx, .int .i64 r.1.gPairs] [(0, .ex 110 false (List.map GCell.c r.1.gCells)), (1, .ex 3 false (List.map cI.i64 r.1.gTrail)), (2, .ex 3 false (List.map cI.i64 r.1.gRefs))])] := by
  refine FnO.of Try.func115 (rfl : Try.f115.body = some _) (Nat.le_of_ble_eq_true (by kernel_rfl)) (Nat.le_of_ble_eq_true (by kernel_rfl)) ?_
  intro w0 X0 Fin pv0 pb
  unfold pspec_l13Heap_heap at h
  refine Wc.seq ?_
  refine Wc.region [] [] [0, 2] [2, 1000000] [] ⟨[(0, (.ptr 1000000 0, [])), (2, (.ptr 2 0, []))], [(2, .cells [.sl (List.map GCell.c []), .sl (List.map cI.i64 [])] [(0, .app 110), (1, .app 3)]), (1000000, .cells [.slx, .slx, .slx, .int .i64 n188_.gPairs] [(0, .ex 110 false (List.map GCell.c n188_.gCells)), (1, .ex 3 false (List.map cI.i64 n188_.gTrail)), (2, .ex 3 false (List.map cI.i64 n188_.gRefs))])], []⟩ _ (by kernel_rfl) .nil ?_
  refine Wc.seq ?_
  obtain ⟨h185, h⟩ := oguard h
  obtain ⟨h186, h⟩ := oguard h
  refine Wc.draw hmix [{ c := some (List.map GCell.c []) }, {}, {}, {}, {}, { c := some (List.map GCell.c n188_.gCells), tk := [3] }, { c := some (List.map cI.i64 []) }, {}, {}, {}, {}, { c := some (List.map cI.i64 n188_.gTrail), tk := [9] }, { tk := [8, 14] }, { tk := [15] }] [] [2] [2, 1000000] [] ⟨[(2, (.ptr 2 0, []))], [(2, .cells [.sl (List.map GCell.c n188_.gCells), .sl (List.map cI.i64 n188_.gTrail)] [(0, .app 110), (1, .app 3)]), (1000000, .cells [.slx, .slx, .slx, .int .i64 n188_.gPairs] [(0, .ex 110 false (List.map GCell.c n188_.gCells)), (1, .ex 3 false (List.map cI.i64 n188_.gTrail)), (2, .ex 3 false (List.map cI.i64 n188_.gRefs))])], []⟩ _ (by kernel_rfl) (fun X => by kernel_rfl) (.cons (cl_nil GCell.c) (.cons (app_re0 GCell.c n188_.gCells) (.cons (app_leaf (c := GCell.c) (ys := n188_.gCells) GCell.c_leaf) (.cons (app_obl2 (c := GCell.c) (xs := []) (ys := n188_.gCells) GCell.c_len h185) (.cons (cl_nil cI.i64) (.cons (app_re0 cI.i64 n188_.gTrail) (.cons (app_leaf (c := cI.i64) (ys := n188_.gTrail) cI.i64_leaf) (.cons (app_obl2 (c := cI.i64) (xs := []) (ys := n188_.gTrail) cI.i64_len h186) .nil)))))))) ?_
  refine Wc.ret ?_
  obtain rfl := Option.some.inj h
  exact ⟨.inl rfl, by kernel_rfl, by kernel_rfl⟩

def pspec_l13Heap_undo_L1 (k : Nat) (b191_ : Int) : Nat → Int → GL13Heap → Option (Out GL13Heap GL13Heap)
  | 0, _, _ => none
  | m + 1, b192_, n193_ =>
    if (decide (b192_ ≥ b191_)) = true then
      (at' n193_.gTrail b192_).bind fun b195_ =>
      if (decide (b195_ < (n193_.gCells.length : Int))) = true then
        (at' n193_.gTrail b192_).bind fun b196_ =>
        (at' n193_.gCells b196_).bind fun c197_ =>
        pspec_l13Heap_undo_L1 k b191_ m (wr.i64 (b192_ - 1)) (GL13Heap.mk (n193_.gCells.set ((b196_).toNat) (GCell.mk c197_.gKind c197_.gName c197_.gNum (-1) c197_.gKids)) n193_.gTrail n193_.gRefs n193_.gPairs)
      else
        pspec_l13Heap_undo_L1 k b191_ m (wr.i64 (b192_ - 1)) n193_
    else
      some (.done n193_)
def pspec_l13Heap_undo_L4 (k : Nat) : Nat → Int → GL13Heap → Option (Out GL13Heap GL13Heap)
  | 0, _, _ => none
  | m + 1, b200_, n201_ =>
    if (decide (b200_ ≥ 0)) = true then
      (at' n201_.gRefs b200_).bind fun b203_ =>
      if (decide (b203_ ≥ (n201_.gCells.length : Int))) = true then
        (at' n201_.gRefs b200_).bind fun b204_ =>
        pspec_l13Heap_undo_L4 k m (wr.i64 (b200_ - 1)) (GL13Heap.mk n201_.gCells n201_.gTrail (n201_.gRefs.set ((b200_).toNat) (-1)) n201_.gPairs)
      else
        pspec_l13Heap_undo_L4 k m (wr.i64 (b200_ - 1)) n201_
    else
      some (.done n201_)
def pspec_l13Heap_undo_J3 (k : Nat) (n199_ : GL13Heap) : Option GL13Heap :=
  (pspec_l13Heap_undo_L4 k k (wr.i64 ((n199_.gRefs.length : Int) - 1)) n199_).bind fun out4 => match out4 with
  | .ret r => some r
  | .done n202_ =>
    some n202_
def pspec_l13Heap_undo_J2 (k : Nat) (b190_ : Int) (n198_ : GL13Heap) : Option GL13Heap :=
  if (decide (b190_ < (n198_.gCells.length : Int))) = true then
    if 0 ≤ b190_ ∧ b190_ ≤ (n198_.gCells.length : Int) then
      pspec_l13Heap_undo_J3 k (GL13Heap.mk (n198_.gCells.take (b190_).toNat) n198_.gTrail n198_.gRefs n198_.gPairs)
    else none
  else
    pspec_l13Heap_undo_J3 k n198_
/-- (*spec.l13Heap).undo -/
def pspec_l13Heap_undo (k : Nat) (n189_ : GL13Heap) (b190_ : Int) (b191_ : Int) : Option GL13Heap :=
  (pspec_l13Heap_undo_L1 k b191_ k (wr.i64 ((n189_.gTrail.length : Int) - 1)) n189_).bind fun out1 => match out1 with
  | .ret r => some r
  | .done n194_ =>
    if (decide (b191_ < (n194_.gTrail.length : Int))) = true then
      if 0 ≤ b191_ ∧ b191_ ≤ (n194_.gTrail.length : Int) then
        pspec_l13Heap_undo_J2 k b190_ (GL13Heap.mk n194_.gCells (n194_.gTrail.take (b191_).toNat) n194_.gRefs n194_.gPairs)
      else none
    else
      pspec_l13Heap_undo_J2 k b190_ n194_
set_option maxHeartbeats 4000000 in
theorem cspec_l13Heap_undo {k : Nat} {n189_ : GL13Heap} {b190_ : Int} {b191_ : Int} {r : GL13Heap} (h : pspec_l13Heap_undo k n189_ b190_ b191_ = some r) : FnO Try.prog 121 [.p [.slx, .slx, .slx, .int .i64 n189_.gPairs] [(0, .ex 110 false (List.map GCell.c n189_.gCells)), (1, .ex 3 false (List.map cI.i64 n189_.gTrail)), (2, .ex 3 false (List.map cI.i64 n189_.gRefs))], .v (.int .i64 b190_) [], .v (.int .i64 b191_) []] (.v (.tup []) []) [(0, .p [.slx, .slx, .slx, .int .i64 r.gPairs] [(0, .ex 110 false (List.map GCell.c r.gCells)), (1, .ex 3 false (List.map cI.i64 r.gTrail)), (2, .ex 3 false (List.map cI.i64 r.gRefs))])] := by
  refine FnO.of Try.func121 (rfl : Try.f121.body = some _) (Nat.le_of_ble_eq_true (by kernel_rfl)) (Nat.le_of_ble_eq_true (by kernel_rfl)) ?_
  intro w0 X0 Fin pv0 pb
  unfold pspec_l13Heap_undo at h
  refine Wc.seq ?_
  refine Wc.seq ?_
  refine Wc.region [{}, {}, {}, {}, { v := some (.int .i64 (n189_.gTrail.length : Int)) }] [] [0, 1, 2, 6] [1000000] [] ⟨[(0, (.ptr 1000000 0, [])), (1, (.v (.int .i64 b190_), [])), (2, (.v (.int .i64 b191_), [])), (6, (.v (.int .i64 (wr.i64 ((n189_.gTrail.length : Int) - 1))), []))], [(1000000, .cells [.slx, .slx, .slx, .int .i64 n189_.gPairs] [(0, .ex 110 false (List.map GCell.c n189_.gCells)), (1, .ex 3 false (List.map cI.i64 n189_.gTrail)), (2, .ex 3 false (List.map cI.i64 n189_.gRefs))])], []⟩ _ (by kernel_rfl) (.cons (len_obl cI.i64 n189_.gTrail) .nil) ?_
  obtain ⟨out1, h187, h⟩ := obind h
  refine Wc.lastJ (fun st => ∃ (n194_ : GL13Heap), out1 = .done n194_ ∧ st = ⟨[(0, (.ptr 1000000 0, [])), (1, (.v (.int .i64 b190_), [])), (2, (.v (.int .i64 b191_), []))], [(1000000, .cells [.slx, .slx, .slx, .int .i64 n194_.gPairs] [(0, .ex 110 false (List.map GCell.c n194_.gCells)), (1, .ex 3 false (List.map cI.i64 n194_.gTrail)), (2, .ex 3 false (List.map cI.i64 n194_.gRefs))])], []⟩) ?_ ?_
  · refine Wc.block ?_
    refine Wc.loop (fun m st => ∃ (b192_ : Int) (n193_ : GL13Heap), st = ⟨[(0, (.ptr 1000000 0, [])), (1, (.v (.int .i64 b190_), [])), (2, (.v (.int .i64 b191_), [])), (6, (.v (.int .i64 b192_), []))], [(1000000, .cells [.slx, .slx, .slx, .int .i64 n193_.gPairs] [(0, .ex 110 false (List.map GCell.c n193_.gCells)), (1, .ex 3 false (List.map cI.i64 n193_.gTrail)), (2, .ex 3 false (List.map cI.i64 n193_.gRefs))])], []⟩ ∧ pspec_l13Heap_undo_L1 k b191_ m b192_ n193_ = some out1) ?_ k ⟨_, _, rfl, h187⟩
    rintro m st ⟨b192_, n193_, rfl, h187⟩
    cases m with
    | zero => exact (onone h187).elim
    | succ m =>
      refine Wc.seq ?_
      refine Wc.seq ?_
      refine Wc.region [] [] [0, 1, 2, 6, 16] [1000000] [] ⟨[(0, (.ptr 1000000 0, [])), (1, (.v (.int .i64 b190_), [])), (2, (.v (.int .i64 b191_), [])), (6, (.v (.int .i64 b192_), [])), (16, (.v (.bool (decide (b192_ ≥ b191_))), []))], [(1000000, .cells [.slx, .slx, .slx, .int .i64 n193_.gPairs] [(0, .ex 110 false (List.map GCell.c n193_.gCells)), (1, .ex 3 false (List.map cI.i64 n193_.gTrail)), (2, .ex 3 false (List.map cI.i64 n193_.gRefs))])], []⟩ _ (by kernel_rfl) .nil ?_
      rcases oif h187 with ⟨h188, h187⟩ | ⟨h188, h187⟩
      · refine Wc.condT h188 (by kernel_rfl) ?_
        refine Wc.fix (st' := ⟨[(0, (.ptr 1000000 0, [])), (1, (.v (.int .i64 b190_), [])), (2, (.v (.int .i64 b191_), [])), (6, (.v (.int .i64 b192_), []))], [(1000000, .cells [.slx, .slx, .slx, .int .i64 n193_.gPairs] [(0, .ex 110 false (List.map GCell.c n193_.gCells)), (1, .ex 3 false (List.map cI.i64 n193_.gTrail)), (2, .ex 3 false (List.map cI.i64 n193_.gRefs))])], []⟩) [] [0, 1, 2, 6] [1000000] [] (by kernel_rfl) ?_
        refine Wc.skip ?_
        refine Wc.seq ?_
        refine Wc.block ?_
        refine Wc.seq ?_
        obtain ⟨b195_, h189, h187⟩ := obind h187
        refine Wc.draw hmix [{}, {}, {}, {}, {}, {}, { v := some (.int .i64 b195_) }, {}, {}, {}, {}, { v := some (.int .i64 (n193_.gCells.length : Int)) }] [] [0, 1, 2, 6, 31] [1000000] [] ⟨[(0, (.ptr 1000000 0, [])), (1, (.v (.int .i64 b190_), [])), (2, (.v (.int .i64 b191_), [])), (6, (.v (.int .i64 b192_), [])), (31, (.v (.bool (decide (b195_ < (n193_.gCells.length : Int)))), []))], [(1000000, .cells [.slx, .slx, .slx, .int .i64 n193_.gPairs] [(0, .ex 110 false (List.map GCell.c n193_.gCells)), (1, .ex 3 false (List.map cI.i64 n193_.gTrail)), (2, .ex 3 false (List.map cI.i64 n193_.gRefs))])], []⟩ _ (by kernel_rfl) (fun X => by kernel_rfl) (.cons (ix_obl (c := cI.i64) cI.i64_len h189) (.cons (el_obl (sz := 1) (off := 0) (s := 1) (ag := false) (v := .int .i64 b195_) (c := cI.i64) rfl (at'_spec h189).2 rfl (Nat.le_of_ble_eq_true rfl) rfl) (.cons (len_obl GCell.c n193_.gCells) .nil))) ?_
        rcases oif h187 with ⟨h190, h187⟩ | ⟨h190, h187⟩
        · refine Wc.condT h190 (by kernel_rfl) ?_
          obtain ⟨b196_, h191, h187⟩ := obind h187
          obtain ⟨c197_, h192, h187⟩ := obind h187
          refine Wc.draw hmix [{}, {}, {}, {}, {}, {}, {}, {}, {}, {}, { v := some (.int .i64 b196_) }, {}, {}, { c := some (List.map GCell.c (n193_.gCells.set ((b196_).toNat) (GCell.mk c197_.gKind c197_.gName c197_.gNum (-1) c197_.gKids))) }] [] [0, 1, 2, 6] [1000000] [] ⟨[(0, (.ptr 1000000 0, [])), (1, (.v (.int .i64 b190_), [])), (2, (.v (.int .i64 b191_), [])), (6, (.v (.int .i64 b192_), []))], [(1000000, .cells [.slx, .slx, .slx, .int .i64 n193_.gPairs] [(0, .ex 110 false (List.map GCell.c (n193_.gCells.set ((b196_).toNat) (GCell.mk c197_.gKind c197_.gName c197_.gNum (-1) c197_.gKids)))), (1, .ex 3 false (List.map cI.i64 n193_.gTrail)), (2, .ex 3 false (List.map cI.i64 n193_.gRefs))])], []⟩ _ (by kernel_rfl) (fun X => by kernel_rfl) (.cons (ix_obl (c := cI.i64) cI.i64_len h191) (.cons (el_obl (sz := 1) (off := 0) (s := 1) (ag := false) (v := .int .i64 b196_) (c := cI.i64) rfl (at'_spec h191).2 rfl (Nat.le_of_ble_eq_true rfl) rfl) (.cons (ix_obl (c := GCell.c) GCell.c_len h192) (.cons (mod_obl (off := 3) (new := [.int .i64 (-1)]) (c := GCell.c) (GCell.c_eq c197_) (GCell.c_eq (GCell.mk c197_.gKind c197_.gName c197_.gNum (-1) c197_.gKids)) (at'_spec h192).2 rfl) (.cons (st_obl (sz := 5) (off := 3) (s := 1) (c := GCell.c) (GCell.c_eq c197_) (at'_spec h192).2 rfl (Nat.le_of_ble_eq_true rfl)) .nil))))) ?_
          refine Wc.region [] [] [0, 1, 2, 6] [1000000] [] ⟨[(0, (.ptr 1000000 0, [])), (1, (.v (.int .i64 b190_), [])), (2, (.v (.int .i64 b191_), [])), (6, (.v (.int .i64 (wr.i64 (b192_ - 1))), []))], [(1000000, .cells [.slx, .slx, .slx, .int .i64 n193_.gPairs] [(0, .ex 110 false (List.map GCell.c (n193_.gCells.set ((b196_).toNat) (GCell.mk c197_.gKind c197_.gName c197_.gNum (-1) c197_.gKids)))), (1, .ex 3 false (List.map cI.i64 n193_.gTrail)), (2, .ex 3 false (List.map cI.i64 n193_.gRefs))])], []⟩ _ (by kernel_rfl) .nil ?_
          exact ⟨_, Nat.lt_succ_self _, _, _, rfl, h187⟩
        · refine Wc.condF h190 (by kernel_rfl) ?_
          refine Wc.fix (st' := ⟨[(0, (.ptr 1000000 0, [])), (1, (.v (.int .i64 b190_), [])), (2, (.v (.int .i64 b191_), [])), (6, (.v (.int .i64 b192_), []))], [(1000000, .cells [.slx, .slx, .slx, .int .i64 n193_.gPairs] [(0, .ex 110 false (List.map GCell.c n193_.gCells)), (1, .ex 3 false (List.map cI.i64 n193_.gTrail)), (2, .ex 3 false (List.map cI.i64 n193_.gRefs))])], []⟩) [] [0, 1, 2, 6] [1000000] [] (by kernel_rfl) ?_
          refine Wc.skip ?_
          refine Wc.region [] [] [0, 1, 2, 6] [1000000] [] ⟨[(0, (.ptr 1000000 0, [])), (1, (.v (.int .i64 b190_), [])), (2, (.v (.int .i64 b191_), [])), (6, (.v (.int .i64 (wr.i64 (b192_ - 1))), []))], [(1000000, .cells [.slx, .slx, .slx, .int .i64 n193_.gPairs] [(0, .ex 110 false (List.map GCell.c n193_.gCells)), (1, .ex 3 false (List.map cI.i64 n193_.gTrail)), (2, .ex 3 false (List.map cI.i64 n193_.gRefs))])], []⟩ _ (by kernel_rfl) .nil ?_
          exact ⟨_, Nat.lt_succ_self _, _, _, rfl, h187⟩
      · refine Wc.condF h188 (by kernel_rfl) ?_
        refine Wc.fix (st' := ⟨[(0, (.ptr 1000000 0, [])), (1, (.v (.int .i64 b190_), [])), (2, (.v (.int .i64 b191_), []))], [(1000000, .cells [.slx, .slx, .slx, .int .i64 n193_.gPairs] [(0, .ex 110 false (List.map GCell.c n193_.gCells)), (1, .ex 3 false (List.map cI.i64 n193_.gTrail)), (2, .ex 3 false (List.map cI.i64 n193_.gRefs))])], []⟩) [] [0, 1, 2] [1000000] [] (by kernel_rfl) ?_
        refine Wc.exit ?_
        obtain rfl := Option.some.inj h187
        exact ⟨_, rfl, rfl⟩
  · rintro st ⟨n194_, rfl, rfl⟩
    refine Wc.seqJ (fun st => ∃ (n198_ : GL13Heap), st = ⟨[(0, (.ptr 1000000 0, [])), (1, (.v (.int .i64 b190_), []))], [(1000000, .cells [.slx, .slx, .slx, .int .i64 n198_.gPairs] [(0, .ex 110 false (List.map GCell.c n198_.gCells)), (1, .ex 3 false (List.map cI.i64 n198_.gTrail)), (2, .ex 3 false (List.map cI.i64 n198_.gRefs))])], []⟩ ∧ pspec_l13Heap_undo_J2 k b190_ n198_ = some r) ?_ ?_
    · refine Wc.seq ?_
      refine Wc.region [{}, {}, {}, {}, {}, { v := some (.int .i64 (n194_.gTrail.length : Int)) }] [] [0, 1, 2, 51] [1000000] [] ⟨[(0, (.ptr 1000000 0, [])), (1, (.v (.int .i64 b190_), [])), (2, (.v (.int .i64 b191_), [])), (51, (.v (.bool (decide (b191_ < (n194_.gTrail.length : Int)))), []))], [(1000000, .cells [.slx, .slx, .slx, .int .i64 n194_.gPairs] [(0, .ex 110 false (List.map GCell.c n194_.gCells)), (1, .ex 3 false (List.map cI.i64 n194_.gTrail)), (2, .ex 3 false (List.map cI.i64 n194_.gRefs))])], []⟩ _ (by kernel_rfl) (.cons (len_obl cI.i64 n194_.gTrail) .nil) ?_
      rcases oif h with ⟨h200, h⟩ | ⟨h200, h⟩
      · refine Wc.condT h200 (by kernel_rfl) ?_
        obtain ⟨h201, h⟩ := oguard h
        refine Wc.region [{}, {}, {}, {}, {}, {}, { c := some (List.map cI.i64 (n194_.gTrail.take (b191_).toNat)), tk := [56], fx := [.pl 56] }, {}, {}, { tk := [58] }] [.so 1000000] [0, 1] [1000000] [] ⟨[(0, (.ptr 1000000 0, [])), (1, (.v (.int .i64 b190_), []))], [(1000000, .cells [.slx, .slx, .slx, .int .i64 n194_.gPairs] [(0, .ex 110 false (List.map GCell.c n194_.gCells)), (1, .ex 3 false (List.map cI.i64 (n194_.gTrail.take (b191_).toNat))), (2, .ex 3 false (List.map cI.i64 n194_.gRefs))])], []⟩ _ (by kernel_rfl) (.cons (take_re cI.i64 n194_.gTrail b191_) (.cons (take_obl (c := cI.i64) h201) .nil)) ?_
        exact ⟨_, rfl, h⟩
      · refine Wc.condF h200 (by kernel_rfl) ?_
        refine Wc.fix (st' := ⟨[(0, (.ptr 1000000 0, [])), (1, (.v (.int .i64 b190_), []))], [(1000000, .cells [.slx, .slx, .slx, .int .i64 n194_.gPairs] [(0, .ex 110 false (List.map GCell.c n194_.gCells)), (1, .ex 3 false (List.map cI.i64 n194_.gTrail)), (2, .ex 3 false (List.map cI.i64 n194_.gRefs))])], []⟩) [] [0, 1] [1000000] [] (by kernel_rfl) ?_
        refine Wc.skip ?_
        exact ⟨_, rfl, h⟩
    · rintro st ⟨n198_, rfl, h⟩
      refine Wc.seqJ (fun st => ∃ (n199_ : GL13Heap), st = ⟨[(0, (.ptr 1000000 0, []))], [(1000000, .cells [.slx, .slx, .slx, .int .i64 n199_.gPairs] [(0, .ex 110 false (List.map GCell.c n199_.gCells)), (1, .ex 3 false (List.map cI.i64 n199_.gTrail)), (2, .ex 3 false (List.map cI.i64 n199_.gRefs))])], []⟩ ∧ pspec_l13Heap_undo_J3 k n199_ = some r) ?_ ?_
      · refine Wc.seq ?_
        refine Wc.region [{}, {}, {}, {}, {}, { v := some (.int .i64 (n198_.gCells.length : Int)) }] [] [0, 1, 67] [1000000] [] ⟨[(0, (.ptr 1000000 0, [])), (1, (.v (.int .i64 b190_), [])), (67, (.v (.bool (decide (b190_ < (n198_.gCells.length : Int)))), []))], [(1000000, .cells [.slx, .slx, .slx, .int .i64 n198_.gPairs] [(0, .ex 110 false (List.map GCell.c n198_.gCells)), (1, .ex 3 false (List.map cI.i64 n198_.gTrail)), (2, .ex 3 false (List.map cI.i64 n198_.gRefs))])], []⟩ _ (by kernel_rfl) (.cons (len_obl GCell.c n198_.gCells) .nil) ?_
        rcases oif h with ⟨h198, h⟩ | ⟨h198, h⟩
        · refine Wc.condT h198 (by kernel_rfl) ?_
          obtain ⟨h199, h⟩ := oguard h
          refine Wc.region [{}, {}, {}, {}, {}, {}, { c := some (List.map GCell.c (n198_.gCells.take (b190_).toNat)), tk := [72], fx := [.pl 72] }, {}, {}, { tk := [74] }] [.so 1000000] [0] [1000000] [] ⟨[(0, (.ptr 1000000 0, []))], [(1000000, .cells [.slx, .slx, .slx, .int .i64 n198_.gPairs] [(0, .ex 110 false (List.map GCell.c (n198_.gCells.take (b190_).toNat))), (1, .ex 3 false (List.map cI.i64 n198_.gTrail)), (2, .ex 3 false (List.map cI.i64 n198_.gRefs))])], []⟩ _ (by kernel_rfl) (.cons (take_re GCell.c n198_.gCells b190_) (.cons (take_obl (c := GCell.c) h199) .nil)) ?_
          exact ⟨_, rfl, h⟩
        · refine Wc.condF h198 (by kernel_rfl) ?_
          refine Wc.fix (st' := ⟨[(0, (.ptr 1000000 0, []))], [(1000000, .cells [.slx, .slx, .slx, .int .i64 n198_.gPairs] [(0, .ex 110 false (List.map GCell.c n198_.gCells)), (1, .ex 3 false (List.map cI.i64 n198_.gTrail)), (2, .ex 3 false (List.map cI.i64 n198_.gRefs))])], []⟩) [] [0] [1000000] [] (by kernel_rfl) ?_
          refine Wc.skip ?_
          exact ⟨_, rfl, h⟩
      · rintro st ⟨n199_, rfl, h⟩
        refine Wc.seq ?_
        refine Wc.region [{}, {}, {}, {}, { v := some (.int .i64 (n199_.gRefs.length : Int)) }] [] [0, 7] [1000000] [] ⟨[(0, (.ptr 1000000 0, [])), (7, (.v (.int .i64 (wr.i64 ((n199_.gRefs.length : Int) - 1))), []))], [(1000000, .cells [.slx, .slx, .slx, .int .i64 n199_.gPairs] [(0, .ex 110 false (List.map GCell.c n199_.gCells)), (1, .ex 3 false (List.map cI.i64 n199_.gTrail)), (2, .ex 3 false (List.map cI.i64 n199_.gRefs))])], []⟩ _ (by kernel_rfl) (.cons (len_obl cI.i64 n199_.gRefs) .nil) ?_
        obtain ⟨out4, h193, h⟩ := obind h
        refine Wc.lastJ (fun st => ∃ (n202_ : GL13Heap), out4 = .done n202_ ∧ st = ⟨[], [(1000000, .cells [.slx, .slx, .slx, .int .i64 n202_.gPairs] [(0, .ex 110 false (List.map GCell.c n202_.gCells)), (1, .ex 3 false (List.map cI.i64 n202_.gTrail)), (2, .ex 3 false (List.map cI.i64 n202_.gRefs))])], []⟩) ?_ ?_
        · refine Wc.block ?_
          refine Wc.loop (fun m st => ∃ (b200_ : Int) (n201_ : GL13Heap), st = ⟨[(0, (.ptr 1000000 0, [])), (7, (.v (.int .i64 b200_), []))], [(1000000, .cells [.slx, .slx, .slx, .int .i64 n201_.gPairs] [(0, .ex 110 false (List.map GCell.c n201_.gCells)), (1, .ex 3 false (List.map cI.i64 n201_.gTrail)), (2, .ex 3 false (List.map cI.i64 n201_.gRefs))])], []⟩ ∧ pspec_l13Heap_undo_L4 k m b200_ n201_ = some out4) ?_ k ⟨_, _, rfl, h193⟩
          rintro m st ⟨b200_, n201_, rfl, h193⟩
          cases m with
          | zero => exact (onone h193).elim
          | succ m =>
            refine Wc.seq ?_
            refine Wc.seq ?_
            refine Wc.region [] [] [0, 7, 84] [1000000] [] ⟨[(0, (.ptr 1000000 0, [])), (7, (.v (.int .i64 b200_), [])), (84, (.v (.bool (decide (b200_ ≥ 0))), []))], [(1000000, .cells [.slx, .slx, .slx, .int .i64 n201_.gPairs] [(0, .ex 110 false (List.map GCell.c n201_.gCells)), (1, .ex 3 false (List.map cI.i64 n201_.gTrail)), (2, .ex 3 false (List.map cI.i64 n201_.gRefs))])], []⟩ _ (by kernel_rfl) .nil ?_
            rcases oif h193 with ⟨h194, h193⟩ | ⟨h194, h193⟩
            · refine Wc.condT h194 (by kernel_rfl) ?_
              refine Wc.fix (st' := ⟨[(0, (.ptr 1000000 0, [])), (7, (.v (.int .i64 b200_), []))], [(1000000, .cells [.slx, .slx, .slx, .int .i64 n201_.gPairs] [(0, .ex 110 false (List.map GCell.c n201_.gCells)), (1, .ex 3 false (List.map cI.i64 n201_.gTrail)), (2, .ex 3 false (List.map cI.i64 n201_.gRefs))])], []⟩) [] [0, 7] [1000000] [] (by kernel_rfl) ?_
              refine Wc.skip ?_
              refine Wc.seq ?_
              refine Wc.block ?_
              refine Wc.seq ?_
              obtain ⟨b203_, h195, h193⟩ := obind h193
              refine Wc.draw hmix [{}, {}, {}, {}, {}, {}, { v := some (.int .i64 b203_) }, {}, {}, {}, {}, { v := some (.int .i64 (n201_.gCells.length : Int)) }] [] [0, 7, 99] [1000000] [] ⟨[(0, (.ptr 1000000 0, [])), (7, (.v (.int .i64 b200_), [])), (99, (.v (.bool (decide (b203_ ≥ (n201_.gCells.length : Int)))), []))], [(1000000, .cells [.slx, .slx, .slx, .int .i64 n201_.gPairs] [(0, .ex 110 false (List.map GCell.c n201_.gCells)), (1, .ex 3 false (List.map cI.i64 n201_.gTrail)), (2, .ex 3 false (List.map cI.i64 n201_.gRefs))])], []⟩ _ (by kernel_rfl) (fun X => by kernel_rfl) (.cons (ix_obl (c := cI.i64) cI.i64_len h195) (.cons (el_obl (sz := 1) (off := 0) (s := 1) (ag := false) (v := .int .i64 b203_) (c := cI.i64) rfl (at'_spec h195).2 rfl (Nat.le_of_ble_eq_true rfl) rfl) (.cons (len_obl GCell.c n201_.gCells) .nil))) ?_
              rcases oif h193 with ⟨h196, h193⟩ | ⟨h196, h193⟩
              · refine Wc.condT h196 (by kernel_rfl) ?_
                obtain ⟨b204_, h197, h193⟩ := obind h193
                refine Wc.region [{}, {}, {}, {}, {}, {}, { c := some (List.map cI.i64 (n201_.gRefs.set ((b200_).toNat) (-1))) }] [] [0, 7] [1000000] [] ⟨[(0, (.ptr 1000000 0, [])), (7, (.v (.int .i64 b200_), []))], [(1000000, .cells [.slx, .slx, .slx, .int .i64 n201_.gPairs] [(0, .ex 110 false (List.map GCell.c n201_.gCells)), (1, .ex 3 false (List.map cI.i64 n201_.gTrail)), (2, .ex 3 false (List.map cI.i64 (n201_.gRefs.set ((b200_).toNat) (-1))))])], []⟩ _ (by kernel_rfl) (.cons (ix_obl (c := cI.i64) cI.i64_len h197) (.cons (mod_obl (off := 0) (new := [.int .i64 (-1)]) (c := cI.i64) rfl rfl (at'_spec h197).2 rfl) (.cons (st_obl (sz := 1) (off := 0) (s := 1) (c := cI.i64) rfl (at'_spec h197).2 rfl (Nat.le_of_ble_eq_true rfl)) .nil))) ?_
                refine Wc.region [] [] [0, 7] [1000000] [] ⟨[(0, (.ptr 1000000 0, [])), (7, (.v (.int .i64 (wr.i64 (b200_ - 1))), []))], [(1000000, .cells [.slx, .slx, .slx, .int .i64 n201_.gPairs] [(0, .ex 110 false (List.map GCell.c n201_.gCells)), (1, .ex 3 false (List.map cI.i64 n201_.gTrail)), (2, .ex 3 false (List.map cI.i64 (n201_.gRefs.set ((b200_).toNat) (-1))))])], []⟩ _ (by kernel_rfl) .nil ?_
                exact ⟨_, Nat.lt_succ_self _, _, _, rfl, h193⟩
              · refine Wc.condF h196 (by kernel_rfl) ?_
                refine Wc.fix (st' := ⟨[(0, (.ptr 1000000 0, [])), (7, (.v (.int .i64 b200_), []))], [(1000000, .cells [.slx, .slx, .slx, .int .i64 n201_.gPairs] [(0, .ex 110 false (List.map GCell.c n201_.gCells)), (1, .ex 3 false (List.map cI.i64 n201_.gTrail)), (2, .ex 3 false (List.map cI.i64 n201_.gRefs))])], []⟩) [] [0, 7] [1000000] [] (by kernel_rfl) ?_
                refine Wc.skip ?_
                refine Wc.region [] [] [0, 7] [1000000] [] ⟨[(0, (.ptr 1000000 0, [])), (7, (.v (.int .i64 (wr.i64 (b200_ - 1))), []))], [(1000000, .cells [.slx, .slx, .slx, .int .i64 n201_.gPairs] [(0, .ex 110 false (List.map GCell.c n201_.gCells)), (1, .ex 3 false (List.map cI.i64 n201_.gTrail)), (2, .ex 3 false (List.map cI.i64 n201_.gRefs))])], []⟩ _ (by kernel_rfl) .nil ?_
                exact ⟨_, Nat.lt_succ_self _, _, _, rfl, h193⟩
            · refine Wc.condF h194 (by kernel_rfl) ?_
              refine Wc.fix (st' := ⟨[], [(1000000, .cells [.slx, .slx, .slx, .int .i64 n201_.gPairs] [(0, .ex 110 false (List.map GCell.c n201_.gCells)), (1, .ex 3 false (List.map cI.i64 n201_.gTrail)), (2, .ex 3 false (List.map cI.i64 n201_.gRefs))])], []⟩) [] [] [1000000] [] (by kernel_rfl) ?_
              refine Wc.exit ?_
              obtain rfl := Option.some.inj h193
              exact ⟨_, rfl, rfl⟩
        · rintro st ⟨n202_, rfl, rfl⟩
          obtain rfl := Option.some.inj h
          exact ⟨(by first | exact .inl rfl | exact .inr rfl), by kernel_rfl, by kernel_rfl⟩

def pspec_l13UndoToRaw_J2 (k : Nat) (e216_ : GHeap) (b222_ : Int) (b223_ : Int) : Option GHeap :=
  (pspec_l13Of k e216_).bind fun n224_ =>
  (pspec_l13Heap_undo k n224_ b222_ b223_).bind fun n225_ =>
  (pspec_l13Heap_heap k n225_).bind fun o226_ =>
  some (GHeap.mk o226_.2.gCells o226_.2.gTrail)
def pspec_l13UndoToRaw_J1 (k : Nat) (b218_ : Int) (e216_ : GHeap) (b222_ : Int) : Option GHeap :=
  if (decide (b218_ < 0)) = true then
    pspec_l13UndoToRaw_J2 k e216_ b222_ 0
  else
    pspec_l13UndoToRaw_J2 k e216_ b222_ b218_
/-- spec.l13UndoToRaw -/
def pspec_l13UndoToRaw (k : Nat) (e216_ : GHeap) (b217_ : Int) (b218_ : Int) : Option GHeap :=
  (pspec_HeapOk k e216_).bind fun i219_ =>
  if (!i219_) = true then
    (pspec_l13Of k e216_).bind fun n220_ =>
    (pspec_l13Heap_heap k n220_).bind fun o221_ =>
    some (GHeap.mk o221_.2.gCells o221_.2.gTrail)
  else
    if (decide (b217_ < 0)) = true then
      pspec_l13UndoToRaw_J1 k b218_ e216_ 0
    else
      pspec_l13UndoToRaw_J1 k b218_ e216_ b217_
theorem cspec_l13UndoToRaw {k : Nat} {e216_ : GHeap} {b217_ : Int} {b218_ : Int} {r : GHeap} (h : pspec_l13UndoToRaw k e216_ b217_ b218_ = some r) : FnO Try.prog 86 [.v (.agg [.sl (List.map GCell.c e216_.gCells), .sl (List.map cI.i64 e216_.gTrail)]) [], .v (.int .i64 b217_) [], .v (.int .i64 b218_) []] (.v (.agg [.sl (List.map GCell.c r.gCells), .sl (List.map cI.i64 r.gTrail)]) [(0, .app 110), (1, .app 3)]) [] := by
  refine FnO.of Try.func86 (rfl : Try.f86.body = some _) (Nat.le_of_ble_eq_true (by kernel_rfl)) (Nat.le_of_ble_eq_true (by kernel_rfl)) ?_
  intro w0 X0 Fin pv0 pb
  unfold pspec_l13UndoToRaw at h
  refine Wc.seq ?_
  refine Wc.region [] [] [1, 2, 3, 6] [3, 6] [] ⟨[(1, (.v (.int .i64 b217_), [])), (2, (.v (.int .i64 b218_), [])), (3, (.ptr 3 0, [])), (6, (.ptr 6 0, []))], [(3, .cells [.sl (List.map GCell.c e216_.gCells), .sl (List.map cI.i64 e216_.gTrail)] []), (6, .cells [.sl (List.map GCell.c []), .sl (List.map cI.i64 [])] [(0, .app 110), (1, .app 3)])], []⟩ _ (by kernel_rfl) .nil ?_
  refine Wc.seq ?_
  refine Wc.seq ?_
  obtain ⟨i219_, h211, h⟩ := obind h
  refine Wc.region [{}, { r := some (.v (.bool i219_) []) }] [] [1, 2, 3, 6, 10] [3, 6] [] ⟨[(1, (.v (.int .i64 b217_), [])), (2, (.v (.int .i64 b218_), [])), (3, (.ptr 3 0, [])), (6, (.ptr 6 0, [])), (10, (.v (.bool (!i219_)), []))], [(3, .cells [.sl (List.map GCell.c e216_.gCells), .sl (List.map cI.i64 e216_.gTrail)] []), (6, .cells [.sl (List.map GCell.c []), .sl (List.map cI.i64 [])] [(0, .app 110), (1, .app 3)])], []⟩ _ (by kernel_rfl) (.cons (cspec_HeapOk h211) .nil) ?_
  rcases oif h with ⟨h212, h⟩ | ⟨h212, h⟩
  · refine Wc.condT h212 (by kernel_rfl) ?_
    refine Wc.seq ?_
    obtain ⟨n220_, h213, h⟩ := obind h
    obtain ⟨o221_, h214, h⟩ := obind h
    refine Wc.region [{}, { r := some (.p [.slx, .slx, .slx, .int .i64 n220_.gPairs] [(0, .ex 110 false (List.map GCell.c n220_.gCells)), (1, .ex 3 false (List.map cI.i64 n220_.gTrail)), (2, .ex 3 false (List.map cI.i64 n220_.gRefs))]) }, { r := some (.v (.agg [.sl (List.map GCell.c o221_.2.gCells), .sl (List.map cI.i64 o221_.2.gTrail)]) [(0, .app 110), (1, .app 3)]), outs := [(0, .p [.slx, .slx, .slx, .int .i64 o221_.1.gPairs] [(0, .ex 110 false (List.map GCell.c o221_.1.gCells)), (1, .ex 3 false (List.map cI.i64 o221_.1.gTrail)), (2, .ex 3 false (List.map cI.i64 o221_.1.gRefs))])] }, { tk := [13] }] [] [6] [6] [] ⟨[(6, (.ptr 6 0, []))], [(6, .cells [.sl (List.map GCell.c o221_.2.gCells), .sl (List.map cI.i64 o221_.2.gTrail)] [(0, .app 110), (1, .app 3)])], []⟩ _ (by kernel_rfl) (.cons (cspec_l13Of h213) (.cons (cspec_l13Heap_heap h214) .nil)) ?_
    refine Wc.ret ?_
    obtain rfl := Option.some.inj h
    exact ⟨.inl rfl, by kernel_rfl, by kernel_rfl⟩
  · refine Wc.condF h212 (by kernel_rfl) ?_
    refine Wc.fix (st' := ⟨[(1, (.v (.int .i64 b217_), [])), (2, (.v (.int .i64 b218_), [])), (3, (.ptr 3 0, [])), (6, (.ptr 6 0, []))], [(3, .cells [.sl (List.map GCell.c e216_.gCells), .sl (List.map cI.i64 e216_.gTrail)] []), (6, .cells [.sl (List.map GCell.c []), .sl (List.map cI.i64 [])] [(0, .app 110), (1, .app 3)])], []⟩) [] [1, 2, 3, 6] [3, 6] [] (by kernel_rfl) ?_
    refine Wc.skip ?_
    refine Wc.seqJ (fun st => ∃ (b222_ : Int), st = ⟨[(1, (.v (.int .i64 b222_), [])), (2, (.v (.int .i64 b218_), [])), (3, (.ptr 3 0, [])), (6, (.ptr 6 0, []))], [(3, .cells [.sl (List.map GCell.c e216_.gCells), .sl (List.map cI.i64 e216_.gTrail)] []), (6, .cells [.sl (List.map GCell.c []), .sl (List.map cI.i64 [])] [(0, .app 110), (1, .app 3)])], []⟩ ∧ pspec_l13UndoToRaw_J1 k b218_ e216_ b222_ = some r) ?_ ?_
    · refine Wc.seq ?_
      refine Wc.region [] [] [1, 2, 3, 6, 15] [3, 6] [] ⟨[(1, (.v (.int .i64 b217_), [])), (2, (.v (.int .i64 b218_), [])), (3, (.ptr 3 0, [])), (6, (.ptr 6 0, [])), (15, (.v (.bool (decide (b217_ < 0))), []))], [(3, .cells [.sl (List.map GCell.c e216_.gCells), .sl (List.map cI.i64 e216_.gTrail)] []), (6, .cells [.sl (List.map GCell.c []), .sl (List.map cI.i64 [])] [(0, .app 110), (1, .app 3)])], []⟩ _ (by kernel_rfl) .nil ?_
      rcases oif h with ⟨h219, h⟩ | ⟨h219, h⟩
      · refine Wc.condT h219 (by kernel_rfl) ?_
        refine Wc.region [] [] [1, 2, 3, 6] [3, 6] [] ⟨[(1, (.v (.int .i64 0), [])), (2, (.v (.int .i64 b218_), [])), (3, (.ptr 3 0, [])), (6, (.ptr 6 0, []))], [(3, .cells [.sl (List.map GCell.c e216_.gCells), .sl (List.map cI.i64 e216_.gTrail)] []), (6, .cells [.sl (List.map GCell.c []), .sl (List.map cI.i64 [])] [(0, .app 110), (1, .app 3)])], []⟩ _ (by kernel_rfl) .nil ?_
        exact ⟨_, rfl, h⟩
      · refine Wc.condF h219 (by kernel_rfl) ?_
        refine Wc.fix (st' := ⟨[(1, (.v (.int .i64 b217_), [])), (2, (.v (.int .i64 b218_), [])), (3, (.ptr 3 0, [])), (6, (.ptr 6 0, []))], [(3, .cells [.sl (List.map GCell.c e216_.gCells), .sl (List.map cI.i64 e216_.gTrail)] []), (6, .cells [.sl (List.map GCell.c []), .sl (List.map cI.i64 [])] [(0, .app 110), (1, .app 3)])], []⟩) [] [1, 2, 3, 6] [3, 6] [] (by kernel_rfl) ?_
        refine Wc.skip ?_
        exact ⟨_, rfl, h⟩
    · rintro st ⟨b222_, rfl, h⟩
      refine Wc.seqJ (fun st => ∃ (b223_ : Int), st = ⟨[(1, (.v (.int .i64 b222_), [])), (2, (.v (.int .i64 b223_), [])), (3, (.ptr 3 0, [])), (6, (.ptr 6 0, []))], [(3, .cells [.sl (List.map GCell.c e216_.gCells), .sl (List.map cI.i64 e216_.gTrail)] []), (6, .cells [.sl (List.map GCell.c []), .sl (List.map cI.i64 [])] [(0, .app 110), (1, .app 3)])], []⟩ ∧ pspec_l13UndoToRaw_J2 k e216_ b222_ b223_ = some r) ?_ ?_
      · refine Wc.seq ?_
        refine Wc.region [] [] [1, 2, 3, 6, 17] [3, 6] [] ⟨[(1, (.v (.int .i64 b222_), [])), (2, (.v (.int .i64 b218_), [])), (3, (.ptr 3 0, [])), (6, (.ptr 6 0, [])), (17, (.v (.bool (decide (b218_ < 0))), []))], [(3, .cells [.sl (List.map GCell.c e216_.gCells), .sl (List.map cI.i64 e216_.gTrail)] []), (6, .cells [.sl (List.map GCell.c []), .sl (List.map cI.i64 [])] [(0, .app 110), (1, .app 3)])], []⟩ _ (by kernel_rfl) .nil ?_
        rcases oif h with ⟨h218, h⟩ | ⟨h218, h⟩
        · refine Wc.condT h218 (by kernel_rfl) ?_
          refine Wc.region [] [] [1, 2, 3, 6] [3, 6] [] ⟨[(1, (.v (.int .i64 b222_), [])), (2, (.v (.int .i64 0), [])), (3, (.ptr 3 0, [])), (6, (.ptr 6 0, []))], [(3, .cells [.sl (List.map GCell.c e216_.gCells), .sl (List.map cI.i64 e216_.gTrail)] []), (6, .cells [.sl (List.map GCell.c []), .sl (List.map cI.i64 [])] [(0, .app 110), (1, .app 3)])], []⟩ _ (by kernel_rfl) .nil ?_
          exact ⟨_, rfl, h⟩
        · refine Wc.condF h218 (by kernel_rfl) ?_
          refine Wc.fix (st' := ⟨[(1, (.v (.int .i64 b222_), [])), (2, (.v (.int .i64 b218_), [])), (3, (.ptr 3 0, [])), (6, (.ptr 6 0, []))], [(3, .cells [.sl (List.map GCell.c e216_.gCells), .sl (List.map cI.i64 e216_.gTrail)] []), (6, .cells [.sl (List.map GCell.c []), .sl (List.map cI.i64 [])] [(0, .app 110), (1, .app 3)])], []⟩) [] [1, 2, 3, 6] [3, 6] [] (by kernel_rfl) ?_
          refine Wc.skip ?_
          exact ⟨_, rfl, h⟩
      · rintro st ⟨b223_, rfl, h⟩
        refine Wc.seq ?_
        obtain ⟨n224_, h215, h⟩ := obind h
        refine Wc.region [{}, { r := some (.p [.slx, .slx, .slx, .int .i64 n224_.gPairs] [(0, .ex 110 false (List.map GCell.c n224_.gCells)), (1, .ex 3 false (List.map cI.i64 n224_.gTrail)), (2, .ex 3 false (List.map cI.i64 n224_.gRefs))]) }] [] [1, 2, 6, 7] [6, 19] [] ⟨[(1, (.v (.int .i64 b222_), [])), (2, (.v (.int .i64 b223_), [])), (6, (.ptr 6 0, [])), (7, (.ptr 19 0, []))], [(6, .cells [.sl (List.map GCell.c []), .sl (List.map cI.i64 [])] [(0, .app 110), (1, .app 3)]), (19, .cells [.slx, .slx, .slx, .int .i64 n224_.gPairs] [(0, .ex 110 false (List.map GCell.c n224_.gCells)), (1, .ex 3 false (List.map cI.i64 n224_.gTrail)), (2, .ex 3 false (List.map cI.i64 n224_.gRefs))])], []⟩ _ (by kernel_rfl) (.cons (cspec_l13Of h215) .nil) ?_
        refine Wc.seq ?_
        obtain ⟨n225_, h216, h⟩ := obind h
        refine Wc.region [{}, {}, {}, { r := some (.v (.tup []) []), outs := [(0, .p [.slx, .slx, .slx, .int .i64 n225_.gPairs] [(0, .ex 110 false (List.map GCell.c n225_.gCells)), (1, .ex 3 false (List.map cI.i64 n225_.gTrail)), (2, .ex 3 false (List.map cI.i64 n225_.gRefs))])] }] [] [6, 7] [6, 19] [] ⟨[(6, (.ptr 6 0, [])), (7, (.ptr 19 0, []))], [(6, .cells [.sl (List.map GCell.c []), .sl (List.map cI.i64 [])] [(0, .app 110), (1, .app 3)]), (19, .cells [.slx, .slx, .slx, .int .i64 n225_.gPairs] [(0, .ex 110 false (List.map GCell.c n225_.gCells)), (1, .ex 3 false (List.map cI.i64 n225_.gTrail)), (2, .ex 3 false (List.map cI.i64 n225_.gRefs))])], []⟩ _ (by kernel_rfl) (.cons (cspec_l13Heap_undo h216) .nil) ?_
        refine Wc.seq ?_
        obtain ⟨o226_, h217, h⟩ := obind h
        refine Wc.region [{}, { r := some (.v (.agg [.sl (List.map GCell.c o226_.2.gCells), .sl (List.map cI.i64 o226_.2.gTrail)]) [(0, .app 110), (1, .app 3)]), outs := [(0, .p [.slx, .slx, .slx, .int .i64 o226_.1.gPairs] [(0, .ex 110 false (List.map GCell.c o226_.1.gCells)), (1, .ex 3 false (List.map cI.i64 o226_.1.gTrail)), (2, .ex 3 false (List.map cI.i64 o226_.1.gRefs))])] }, { tk := [25] }] [] [6] [6] [] ⟨[(6, (.ptr 6 0, []))], [(6, .cells [.sl (List.map GCell.c o226_.2.gCells), .sl (List.map cI.i64 o226_.2.gTrail)] [(0, .app 110), (1, .app 3)])], []⟩ _ (by kernel_rfl) (.cons (cspec_l13Heap_heap h217) .nil) ?_
        refine Wc.ret ?_
        obtain rfl := Option.some.inj h
        exact ⟨.inl rfl, by kernel_rfl, by kernel_rfl⟩

/-- spec.UndoTo -/
def pspec_UndoTo (k : Nat) (e232_ : GHeap) (b233_ : Int) (b234_ : Int) : Option GHeap :=
  (pspec_l13UndoToRaw k e232_ b233_ b234_).bind fun e235_ =>
  (pspec_l34Heap k e235_).bind fun e236_ =>
  some e236_
theorem cspec_UndoTo {k : Nat} {e232_ : GHeap} {b233_ : Int} {b234_ : Int} {r : GHeap} (h : pspec_UndoTo k e232_ b233_ b234_ = some r) : FnO Try.prog 43 [.v (.agg [.sl (List.map GCell.c e232_.gCells), .sl (List.map cI.i64 e232_.gTrail)]) [], .v (.int .i64 b233_) [], .v (.int .i64 b234_) []] (.v (.agg [.sl (List.map GCell.c r.gCells), .sl (List.map cI.i64 r.gTrail)]) [(0, .app 110), (1, .app 3)]) [] := by
  refine FnO.of Try.func43 (rfl : Try.f43.body = some _) (Nat.le_of_ble_eq_true (by kernel_rfl)) (Nat.le_of_ble_eq_true (by kernel_rfl)) ?_
  intro w0 X0 Fin pv0 pb
  unfold pspec_UndoTo at h
  refine Wc.seq ?_
  refine Wc.region [] [] [1, 2, 3, 6] [3, 6] [] ⟨[(1, (.v (.int .i64 b233_), [])), (2, (.v (.int .i64 b234_), [])), (3, (.ptr 3 0, [])), (6, (.ptr 6 0, []))], [(3, .cells [.sl (List.map GCell.c e232_.gCells), .sl (List.map cI.i64 e232_.gTrail)] []), (6, .cells [.sl (List.map GCell.c []), .sl (List.map cI.i64 [])] [(0, .app 110), (1, .app 3)])], []⟩ _ (by kernel_rfl) .nil ?_
  refine Wc.seq ?_
  obtain ⟨e235_, h222, h⟩ := obind h
  refine Wc.region [{}, {}, {}, { r := some (.v (.agg [.sl (List.map GCell.c e235_.gCells), .sl (List.map cI.i64 e235_.gTrail)]) [(0, .app 110), (1, .app 3)]) }, {}, { tk := [11] }] [] [6, 7] [6, 7] [] ⟨[(6, (.ptr 6 0, [])), (7, (.ptr 7 0, []))], [(6, .cells [.sl (List.map GCell.c []), .sl (List.map cI.i64 [])] [(0, .app 110), (1, .app 3)]), (7, .cells [.sl (List.map GCell.c e235_.gCells), .sl (List.map cI.i64 e235_.gTrail)] [(0, .app 110), (1, .app 3)])], []⟩ _ (by kernel_rfl) (.cons (cspec_l13UndoToRaw h222) .nil) ?_
  refine Wc.seq ?_
  obtain ⟨e236_, h223, h⟩ := obind h
  refine Wc.region [{}, { r := some (.v (.agg [.sl (List.map GCell.c e236_.gCells), .sl (List.map cI.i64 e236_.gTrail)]) [(0, .app 110), (1, .app 3)]) }, { tk := [13] }] [] [6] [6] [] ⟨[(6, (.ptr 6 0, []))], [(6, .cells [.sl (List.map GCell.c e236_.gCells), .sl (List.map cI.i64 e236_.gTrail)] [(0, .app 110), (1, .app 3)])], []⟩ _ (by kernel_rfl) (.cons (cspec_l34Heap h223) .nil) ?_
  refine Wc.ret ?_
  obtain rfl := Option.some.inj h
  exact ⟨.inl rfl, by kernel_rfl, by kernel_rfl⟩
end Go.Proofs.Ytbfkmgenokhkgaa

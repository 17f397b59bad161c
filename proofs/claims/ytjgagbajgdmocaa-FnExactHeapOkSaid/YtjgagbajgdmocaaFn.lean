/- What the functions do. -/
import Derived.Test.YtjgagbajgdmocaaTy
set_option linter.unusedVariables false
set_option linter.unusedSimpArgs false
namespace Go.Proofs.Ytjgagbajgdmocaa
open Go.RowKit Go.Bv
/-- laws.szIntS -/
def plaws_szIntS (k : Nat) (a1_ : List Int) (b2_ : Int) : Option Int :=
  if (decide ((wr.i64 (b2_ - (a1_.length : Int))) < 0)) = true then
    some (-1)
  else
    some (wr.i64 (b2_ - (a1_.length : Int)))
theorem claws_szIntS {k : Nat} {a1_ : List Int} {b2_ : Int} {r : Int} (h : plaws_szIntS k a1_ b2_ = some r) : FnO Try.prog 45 [.v (.sl (List.map cI.i64 a1_)) [], .v (.int .i64 b2_) []] (.v (.int .i64 r) []) [] := by
  refine FnO.of Try.func45 (rfl : Try.f45.body = some _) (Nat.le_of_ble_eq_true (by kernel_rfl)) (Nat.le_of_ble_eq_true (by kernel_rfl)) ?_
  intro w0 X0 Fin pv0 pb
  unfold plaws_szIntS at h
  refine Wc.seq ?_
  refine Wc.region [] [] [0, 1] [] [] ⟨[(0, (.v (.sl (List.map cI.i64 a1_)), [])), (1, (.v (.int .i64 b2_), []))], [], []⟩ _ (by kernel_rfl) .nil ?_
  refine Wc.seq ?_
  refine Wc.region [{}, {}, { v := some (.int .i64 (a1_.length : Int)) }] [] [1] [] [] ⟨[(1, (.v (.int .i64 (wr.i64 (b2_ - (a1_.length : Int)))), []))], [], []⟩ _ (by kernel_rfl) (.cons (len_obl cI.i64 a1_) .nil) ?_
  refine Wc.seq ?_
  refine Wc.seq ?_
  refine Wc.region [] [] [1, 10] [] [] ⟨[(1, (.v (.int .i64 (wr.i64 (b2_ - (a1_.length : Int)))), [])), (10, (.v (.bool (decide ((wr.i64 (b2_ - (a1_.length : Int))) < 0))), []))], [], []⟩ _ (by kernel_rfl) .nil ?_
  rcases oif h with ⟨h1, h⟩ | ⟨h1, h⟩
  · refine Wc.condT h1 (by kernel_rfl) ?_
    refine Wc.seq ?_
    refine Wc.region [] [] [4] [] [] ⟨[(4, (.v (.int .i64 (-1)), []))], [], []⟩ _ (by kernel_rfl) .nil ?_
    refine Wc.ret ?_
    obtain rfl := Option.some.inj h
    exact ⟨.inl rfl, by kernel_rfl, by kernel_rfl⟩
  · refine Wc.condF h1 (by kernel_rfl) ?_
    refine Wc.fix (st' := ⟨[(1, (.v (.int .i64 (wr.i64 (b2_ - (a1_.length : Int)))), []))], [], []⟩) [] [1] [] [] (by kernel_rfl) ?_
    refine Wc.skip ?_
    refine Wc.seq ?_
    refine Wc.region [] [] [4] [] [] ⟨[(4, (.v (.int .i64 (wr.i64 (b2_ - (a1_.length : Int)))), []))], [], []⟩ _ (by kernel_rfl) .nil ?_
    refine Wc.ret ?_
    obtain rfl := Option.some.inj h
    exact ⟨.inl rfl, by kernel_rfl, by kernel_rfl⟩

/-- laws.szCell -/
def plaws_szCell (k : Nat) (c3_ : GCell) (b4_ : Int) : Option Int :=
  if (decide ((wr.i64 (b4_ - (c3_.gName.size : Int))) < 0)) = true then
    some (-1)
  else
    (plaws_szIntS k c3_.gKids (wr.i64 (b4_ - (c3_.gName.size : Int)))).bind fun b5_ =>
    if (decide (b5_ < 0)) = true then
      some (-1)
    else
      some b5_
theorem claws_szCell {k : Nat} {c3_ : GCell} {b4_ : Int} {r : Int} (h : plaws_szCell k c3_ b4_ = some r) : FnO Try.prog 84 [.v (.agg [.int .i64 c3_.gKind, .str c3_.gName, .int .i64 c3_.gNum, .int .i64 c3_.gTo, .sl (List.map cI.i64 c3_.gKids)]) [], .v (.int .i64 b4_) []] (.v (.int .i64 r) []) [] := by
  refine FnO.of Try.func84 (rfl : Try.f84.body = some _) (Nat.le_of_ble_eq_true (by kernel_rfl)) (Nat.le_of_ble_eq_true (by kernel_rfl)) ?_
  intro w0 X0 Fin pv0 pb
  unfold plaws_szCell at h
  refine Wc.seq ?_
  refine Wc.region [] [] [1, 2] [2] [] ⟨[(1, (.v (.int .i64 b4_), [])), (2, (.ptr 2 0, []))], [(2, .cells [.int .i64 c3_.gKind, .str c3_.gName, .int .i64 c3_.gNum, .int .i64 c3_.gTo, .sl (List.map cI.i64 c3_.gKids)] [])], []⟩ _ (by kernel_rfl) .nil ?_
  refine Wc.seq ?_
  refine Wc.region [] [] [1, 2] [2] [] ⟨[(1, (.v (.int .i64 (wr.i64 (b4_ - (c3_.gName.size : Int)))), [])), (2, (.ptr 2 0, []))], [(2, .cells [.int .i64 c3_.gKind, .str c3_.gName, .int .i64 c3_.gNum, .int .i64 c3_.gTo, .sl (List.map cI.i64 c3_.gKids)] [])], []⟩ _ (by kernel_rfl) .nil ?_
  refine Wc.seq ?_
  refine Wc.seq ?_
  refine Wc.region [] [] [1, 2, 11] [2] [] ⟨[(1, (.v (.int .i64 (wr.i64 (b4_ - (c3_.gName.size : Int)))), [])), (2, (.ptr 2 0, [])), (11, (.v (.bool (decide ((wr.i64 (b4_ - (c3_.gName.size : Int))) < 0))), []))], [(2, .cells [.int .i64 c3_.gKind, .str c3_.gName, .int .i64 c3_.gNum, .int .i64 c3_.gTo, .sl (List.map cI.i64 c3_.gKids)] [])], []⟩ _ (by kernel_rfl) .nil ?_
  rcases oif h with ⟨h2, h⟩ | ⟨h2, h⟩
  · refine Wc.condT h2 (by kernel_rfl) ?_
    refine Wc.seq ?_
    refine Wc.region [] [] [4] [] [] ⟨[(4, (.v (.int .i64 (-1)), []))], [], []⟩ _ (by kernel_rfl) .nil ?_
    refine Wc.ret ?_
    obtain rfl := Option.some.inj h
    exact ⟨.inl rfl, by kernel_rfl, by kernel_rfl⟩
  · refine Wc.condF h2 (by kernel_rfl) ?_
    refine Wc.fix (st' := ⟨[(1, (.v (.int .i64 (wr.i64 (b4_ - (c3_.gName.size : Int)))), [])), (2, (.ptr 2 0, []))], [(2, .cells [.int .i64 c3_.gKind, .str c3_.gName, .int .i64 c3_.gNum, .int .i64 c3_.gTo, .sl (List.map cI.i64 c3_.gKids)] [])], []⟩) [] [1, 2] [2] [] (by kernel_rfl) ?_
    refine Wc.skip ?_
    refine Wc.seq ?_
    obtain ⟨b5_, h3, h⟩ := obind h
    refine Wc.region [{}, {}, {}, { r := some (.v (.int .i64 b5_) []) }] [] [1] [] [] ⟨[(1, (.v (.int .i64 b5_), []))], [], []⟩ _ (by kernel_rfl) (.cons (claws_szIntS h3) .nil) ?_
    refine Wc.seq ?_
    refine Wc.seq ?_
    refine Wc.region [] [] [1, 17] [] [] ⟨[(1, (.v (.int .i64 b5_), [])), (17, (.v (.bool (decide (b5_ < 0))), []))], [], []⟩ _ (by kernel_rfl) .nil ?_
    rcases oif h with ⟨h4, h⟩ | ⟨h4, h⟩
    · refine Wc.condT h4 (by kernel_rfl) ?_
      refine Wc.seq ?_
      refine Wc.region [] [] [4] [] [] ⟨[(4, (.v (.int .i64 (-1)), []))], [], []⟩ _ (by kernel_rfl) .nil ?_
      refine Wc.ret ?_
      obtain rfl := Option.some.inj h
      exact ⟨.inl rfl, by kernel_rfl, by kernel_rfl⟩
    · refine Wc.condF h4 (by kernel_rfl) ?_
      refine Wc.fix (st' := ⟨[(1, (.v (.int .i64 b5_), []))], [], []⟩) [] [1] [] [] (by kernel_rfl) ?_
      refine Wc.skip ?_
      refine Wc.seq ?_
      refine Wc.region [] [] [4] [] [] ⟨[(4, (.v (.int .i64 b5_), []))], [], []⟩ _ (by kernel_rfl) .nil ?_
      refine Wc.ret ?_
      obtain rfl := Option.some.inj h
      exact ⟨.inl rfl, by kernel_rfl, by kernel_rfl⟩

def plaws_szCellS_L1 (k : Nat) (d6_ : List GCell) : Nat → Int → Int → Option (Out Int Int)
  | 0, _, _ => none
  | m + 1, b8_, b9_ =>
    if (decide (b9_ < (d6_.length : Int))) = true then
      (at' d6_ b9_).bind fun c11_ =>
      (plaws_szCell k c11_ b8_).bind fun b12_ =>
      if (decide (b12_ < 0)) = true then
        some (.ret (-1))
      else
        plaws_szCellS_L1 k d6_ m b12_ (wr.i64 (b9_ + 1))
    else
      some (.done b8_)
/-- laws.szCellS -/
def plaws_szCellS (k : Nat) (d6_ : List GCell) (b7_ : Int) : Option Int :=
  if (decide ((wr.i64 (b7_ - (d6_.length : Int))) < 0)) = true then
    some (-1)
  else
    (plaws_szCellS_L1 k d6_ k (wr.i64 (b7_ - (d6_.length : Int))) 0).bind fun out1 => match out1 with
    | .ret r => some r
    | .done b10_ =>
      some b10_
theorem claws_szCellS {k : Nat} {d6_ : List GCell} {b7_ : Int} {r : Int} (h : plaws_szCellS k d6_ b7_ = some r) : FnO Try.prog 44 [.v (.sl (List.map GCell.c d6_)) [], .v (.int .i64 b7_) []] (.v (.int .i64 r) []) [] := by
  refine FnO.of Try.func44 (rfl : Try.f44.body = some _) (Nat.le_of_ble_eq_true (by kernel_rfl)) (Nat.le_of_ble_eq_true (by kernel_rfl)) ?_
  intro w0 X0 Fin pv0 pb
  unfold plaws_szCellS at h
  refine Wc.seq ?_
  refine Wc.region [] [] [0, 1] [] [] ⟨[(0, (.v (.sl (List.map GCell.c d6_)), [])), (1, (.v (.int .i64 b7_), []))], [], []⟩ _ (by kernel_rfl) .nil ?_
  refine Wc.seq ?_
  refine Wc.region [{}, {}, { v := some (.int .i64 (d6_.length : Int)) }] [] [0, 1] [] [] ⟨[(0, (.v (.sl (List.map GCell.c d6_)), [])), (1, (.v (.int .i64 (wr.i64 (b7_ - (d6_.length : Int)))), []))], [], []⟩ _ (by kernel_rfl) (.cons (len_obl GCell.c d6_) .nil) ?_
  refine Wc.seq ?_
  refine Wc.seq ?_
  refine Wc.region [] [] [0, 1, 11] [] [] ⟨[(0, (.v (.sl (List.map GCell.c d6_)), [])), (1, (.v (.int .i64 (wr.i64 (b7_ - (d6_.length : Int)))), [])), (11, (.v (.bool (decide ((wr.i64 (b7_ - (d6_.length : Int))) < 0))), []))], [], []⟩ _ (by kernel_rfl) .nil ?_
  rcases oif h with ⟨h5, h⟩ | ⟨h5, h⟩
  · refine Wc.condT h5 (by kernel_rfl) ?_
    refine Wc.seq ?_
    refine Wc.region [] [] [4] [] [] ⟨[(4, (.v (.int .i64 (-1)), []))], [], []⟩ _ (by kernel_rfl) .nil ?_
    refine Wc.ret ?_
    obtain rfl := Option.some.inj h
    exact ⟨.inl rfl, by kernel_rfl, by kernel_rfl⟩
  · refine Wc.condF h5 (by kernel_rfl) ?_
    refine Wc.fix (st' := ⟨[(0, (.v (.sl (List.map GCell.c d6_)), [])), (1, (.v (.int .i64 (wr.i64 (b7_ - (d6_.length : Int)))), []))], [], []⟩) [] [0, 1] [] [] (by kernel_rfl) ?_
    refine Wc.skip ?_
    refine Wc.seq ?_
    refine Wc.seq ?_
    refine Wc.region [] [] [0, 1, 5] [] [] ⟨[(0, (.v (.sl (List.map GCell.c d6_)), [])), (1, (.v (.int .i64 (wr.i64 (b7_ - (d6_.length : Int)))), [])), (5, (.v (.int .i64 0), []))], [], []⟩ _ (by kernel_rfl) .nil ?_
    obtain ⟨out1, h6, h⟩ := obind h
    refine Wc.lastJ (fun st => ∃ (b10_ : Int), out1 = .done b10_ ∧ st = ⟨[(1, (.v (.int .i64 b10_), []))], [], []⟩) ?_ ?_
    · refine Wc.block ?_
      refine Wc.loop (fun m st => ∃ (b8_ : Int) (b9_ : Int), st = ⟨[(0, (.v (.sl (List.map GCell.c d6_)), [])), (1, (.v (.int .i64 b8_), [])), (5, (.v (.int .i64 b9_), []))], [], []⟩ ∧ plaws_szCellS_L1 k d6_ m b8_ b9_ = some out1) ?_ k ⟨_, _, rfl, h6⟩
      rintro m st ⟨b8_, b9_, rfl, h6⟩
      cases m with
      | zero => exact (onone h6).elim
      | succ m =>
        refine Wc.seq ?_
        refine Wc.seq ?_
        refine Wc.region [{}, {}, { v := some (.int .i64 (d6_.length : Int)) }] [] [0, 1, 5, 15] [] [] ⟨[(0, (.v (.sl (List.map GCell.c d6_)), [])), (1, (.v (.int .i64 b8_), [])), (5, (.v (.int .i64 b9_), [])), (15, (.v (.bool (decide (b9_ < (d6_.length : Int)))), []))], [], []⟩ _ (by kernel_rfl) (.cons (len_obl GCell.c d6_) .nil) ?_
        rcases oif h6 with ⟨h7, h6⟩ | ⟨h7, h6⟩
        · refine Wc.condT h7 (by kernel_rfl) ?_
          refine Wc.fix (st' := ⟨[(0, (.v (.sl (List.map GCell.c d6_)), [])), (1, (.v (.int .i64 b8_), [])), (5, (.v (.int .i64 b9_), []))], [], []⟩) [] [0, 1, 5] [] [] (by kernel_rfl) ?_
          refine Wc.skip ?_
          refine Wc.seq ?_
          refine Wc.block ?_
          refine Wc.seq ?_
          obtain ⟨c11_, h8, h6⟩ := obind h6
          obtain ⟨b12_, h9, h6⟩ := obind h6
          refine Wc.region [{}, {}, { v := some (.vptr [.int .i64 c11_.gKind, .str c11_.gName, .int .i64 c11_.gNum, .int .i64 c11_.gTo, .sl (List.map cI.i64 c11_.gKids)]) }, {}, {}, { r := some (.v (.int .i64 b12_) []) }] [] [0, 1, 5] [] [] ⟨[(0, (.v (.sl (List.map GCell.c d6_)), [])), (1, (.v (.int .i64 b12_), [])), (5, (.v (.int .i64 b9_), []))], [], []⟩ _ (by kernel_rfl) (.cons (at_obl (c := GCell.c) (GCell.c_eq c11_) GCell.c_len h8) (.cons (len_ok 5 [.int .i64 c11_.gKind, .str c11_.gName, .int .i64 c11_.gNum, .int .i64 c11_.gTo, .sl (List.map cI.i64 c11_.gKids)]) (.cons (claws_szCell h9) .nil))) ?_
          refine Wc.seq ?_
          refine Wc.region [] [] [0, 1, 5, 25] [] [] ⟨[(0, (.v (.sl (List.map GCell.c d6_)), [])), (1, (.v (.int .i64 b12_), [])), (5, (.v (.int .i64 b9_), [])), (25, (.v (.bool (decide (b12_ < 0))), []))], [], []⟩ _ (by kernel_rfl) .nil ?_
          rcases oif h6 with ⟨h10, h6⟩ | ⟨h10, h6⟩
          · refine Wc.condT h10 (by kernel_rfl) ?_
            refine Wc.seq ?_
            refine Wc.region [] [] [4] [] [] ⟨[(4, (.v (.int .i64 (-1)), []))], [], []⟩ _ (by kernel_rfl) .nil ?_
            refine Wc.ret ?_
            obtain rfl := Option.some.inj h6
            obtain rfl := Option.some.inj h
            exact ⟨.inl rfl, by kernel_rfl, by kernel_rfl⟩
          · refine Wc.condF h10 (by kernel_rfl) ?_
            refine Wc.fix (st' := ⟨[(0, (.v (.sl (List.map GCell.c d6_)), [])), (1, (.v (.int .i64 b12_), [])), (5, (.v (.int .i64 b9_), []))], [], []⟩) [] [0, 1, 5] [] [] (by kernel_rfl) ?_
            refine Wc.skip ?_
            refine Wc.region [] [] [0, 1, 5] [] [] ⟨[(0, (.v (.sl (List.map GCell.c d6_)), [])), (1, (.v (.int .i64 b12_), [])), (5, (.v (.int .i64 (wr.i64 (b9_ + 1))), []))], [], []⟩ _ (by kernel_rfl) .nil ?_
            exact ⟨_, Nat.lt_succ_self _, _, _, rfl, h6⟩
        · refine Wc.condF h7 (by kernel_rfl) ?_
          refine Wc.fix (st' := ⟨[(1, (.v (.int .i64 b8_), []))], [], []⟩) [] [1] [] [] (by kernel_rfl) ?_
          refine Wc.exit ?_
          obtain rfl := Option.some.inj h6
          exact ⟨_, rfl, rfl⟩
    · rintro st ⟨b10_, rfl, rfl⟩
      refine Wc.seq ?_
      refine Wc.region [] [] [4] [] [] ⟨[(4, (.v (.int .i64 b10_), []))], [], []⟩ _ (by kernel_rfl) .nil ?_
      refine Wc.ret ?_
      obtain rfl := Option.some.inj h
      exact ⟨.inl rfl, by kernel_rfl, by kernel_rfl⟩

/-- laws.szHeap -/
def plaws_szHeap (k : Nat) (e13_ : GHeap) (b14_ : Int) : Option Int :=
  (plaws_szCellS k e13_.gCells b14_).bind fun b15_ =>
  if (decide (b15_ < 0)) = true then
    some (-1)
  else
    (plaws_szIntS k e13_.gTrail b15_).bind fun b16_ =>
    if (decide (b16_ < 0)) = true then
      some (-1)
    else
      some b16_
theorem claws_szHeap {k : Nat} {e13_ : GHeap} {b14_ : Int} {r : Int} (h : plaws_szHeap k e13_ b14_ = some r) : FnO Try.prog 9 [.v (.agg [.sl (List.map GCell.c e13_.gCells), .sl (List.map cI.i64 e13_.gTrail)]) [], .v (.int .i64 b14_) []] (.v (.int .i64 r) []) [] := by
  refine FnO.of Try.func9 (rfl : Try.f9.body = some _) (Nat.le_of_ble_eq_true (by kernel_rfl)) (Nat.le_of_ble_eq_true (by kernel_rfl)) ?_
  intro w0 X0 Fin pv0 pb
  unfold plaws_szHeap at h
  refine Wc.seq ?_
  refine Wc.region [] [] [1, 2] [2] [] ⟨[(1, (.v (.int .i64 b14_), [])), (2, (.ptr 2 0, []))], [(2, .cells [.sl (List.map GCell.c e13_.gCells), .sl (List.map cI.i64 e13_.gTrail)] [])], []⟩ _ (by kernel_rfl) .nil ?_
  refine Wc.seq ?_
  obtain ⟨b15_, h11, h⟩ := obind h
  refine Wc.region [{}, {}, {}, { r := some (.v (.int .i64 b15_) []) }] [] [1, 2] [2] [] ⟨[(1, (.v (.int .i64 b15_), [])), (2, (.ptr 2 0, []))], [(2, .cells [.sl (List.map GCell.c e13_.gCells), .sl (List.map cI.i64 e13_.gTrail)] [])], []⟩ _ (by kernel_rfl) (.cons (claws_szCellS h11) .nil) ?_
  refine Wc.seq ?_
  refine Wc.seq ?_
  refine Wc.region [] [] [1, 2, 10] [2] [] ⟨[(1, (.v (.int .i64 b15_), [])), (2, (.ptr 2 0, [])), (10, (.v (.bool (decide (b15_ < 0))), []))], [(2, .cells [.sl (List.map GCell.c e13_.gCells), .sl (List.map cI.i64 e13_.gTrail)] [])], []⟩ _ (by kernel_rfl) .nil ?_
  rcases oif h with ⟨h12, h⟩ | ⟨h12, h⟩
  · refine Wc.condT h12 (by kernel_rfl) ?_
    refine Wc.seq ?_
    refine Wc.region [] [] [4] [] [] ⟨[(4, (.v (.int .i64 (-1)), []))], [], []⟩ _ (by kernel_rfl) .nil ?_
    refine Wc.ret ?_
    obtain rfl := Option.some.inj h
    exact ⟨.inl rfl, by kernel_rfl, by kernel_rfl⟩
  · refine Wc.condF h12 (by kernel_rfl) ?_
    refine Wc.fix (st' := ⟨[(1, (.v (.int .i64 b15_), [])), (2, (.ptr 2 0, []))], [(2, .cells [.sl (List.map GCell.c e13_.gCells), .sl (List.map cI.i64 e13_.gTrail)] [])], []⟩) [] [1, 2] [2] [] (by kernel_rfl) ?_
    refine Wc.skip ?_
    refine Wc.seq ?_
    obtain ⟨b16_, h13, h⟩ := obind h
    refine Wc.region [{}, {}, {}, { r := some (.v (.int .i64 b16_) []) }] [] [1] [] [] ⟨[(1, (.v (.int .i64 b16_), []))], [], []⟩ _ (by kernel_rfl) (.cons (claws_szIntS h13) .nil) ?_
    refine Wc.seq ?_
    refine Wc.seq ?_
    refine Wc.region [] [] [1, 16] [] [] ⟨[(1, (.v (.int .i64 b16_), [])), (16, (.v (.bool (decide (b16_ < 0))), []))], [], []⟩ _ (by kernel_rfl) .nil ?_
    rcases oif h with ⟨h14, h⟩ | ⟨h14, h⟩
    · refine Wc.condT h14 (by kernel_rfl) ?_
      refine Wc.seq ?_
      refine Wc.region [] [] [4] [] [] ⟨[(4, (.v (.int .i64 (-1)), []))], [], []⟩ _ (by kernel_rfl) .nil ?_
      refine Wc.ret ?_
      obtain rfl := Option.some.inj h
      exact ⟨.inl rfl, by kernel_rfl, by kernel_rfl⟩
    · refine Wc.condF h14 (by kernel_rfl) ?_
      refine Wc.fix (st' := ⟨[(1, (.v (.int .i64 b16_), []))], [], []⟩) [] [1] [] [] (by kernel_rfl) ?_
      refine Wc.skip ?_
      refine Wc.seq ?_
      refine Wc.region [] [] [4] [] [] ⟨[(4, (.v (.int .i64 b16_), []))], [], []⟩ _ (by kernel_rfl) .nil ?_
      refine Wc.ret ?_
      obtain rfl := Option.some.inj h
      exact ⟨.inl rfl, by kernel_rfl, by kernel_rfl⟩

/-- spec.l01In -/
def pspec_l01In (k : Nat) (b17_ : Int) (b18_ : Int) (b19_ : Int) : Option Bool :=
  if (decide (b17_ ≥ b18_)) = true then
    some (decide (b17_ ≤ b19_))
  else
    some false
theorem cspec_l01In {k : Nat} {b17_ : Int} {b18_ : Int} {b19_ : Int} {r : Bool} (h : pspec_l01In k b17_ b18_ b19_ = some r) : FnO Try.prog 46 [.v (.int .i64 b17_) [], .v (.int .i64 b18_) [], .v (.int .i64 b19_) []] (.v (.bool r) []) [] := by
  refine FnO.of Try.func46 (rfl : Try.f46.body = some _) (Nat.le_of_ble_eq_true (by kernel_rfl)) (Nat.le_of_ble_eq_true (by kernel_rfl)) ?_
  intro w0 X0 Fin pv0 pb
  unfold pspec_l01In at h
  refine Wc.seq ?_
  refine Wc.region [] [] [0, 1, 2] [] [] ⟨[(0, (.v (.int .i64 b17_), [])), (1, (.v (.int .i64 b18_), [])), (2, (.v (.int .i64 b19_), []))], [], []⟩ _ (by kernel_rfl) .nil ?_
  refine Wc.seq ?_
  rcases oif h with ⟨h15, h⟩ | ⟨h15, h⟩
  · refine Wc.region [{}, {}, {}, { re := some (.bool true) }] [] [6] [] [] ⟨[(6, (.v (.bool (decide (b17_ ≤ b19_))), []))], [], []⟩ _ (by kernel_rfl) (.cons (congrArg AV.bool h15) .nil) ?_
    refine Wc.ret ?_
    obtain rfl := Option.some.inj h
    exact ⟨.inl rfl, by kernel_rfl, by kernel_rfl⟩
  · refine Wc.region [{}, {}, {}, { re := some (.bool false) }] [] [6] [] [] ⟨[(6, (.v (.bool false), []))], [], []⟩ _ (by kernel_rfl) (.cons (congrArg AV.bool h15) .nil) ?_
    refine Wc.ret ?_
    obtain rfl := Option.some.inj h
    exact ⟨.inl rfl, by kernel_rfl, by kernel_rfl⟩

def pspec_l13Follow_L1 (k : Nat) (d20_ : List GCell) : Nat → Int → Int → Option (Out Int Unit)
  | 0, _, _ => none
  | m + 1, b22_, b23_ =>
    if (decide (b23_ ≤ (d20_.length : Int))) = true then
      (pspec_l01In k b22_ 0 (wr.i64 ((d20_.length : Int) - 1))).bind fun f24_ =>
      if (!f24_) = true then
        some (.ret (-1))
      else
        (at' d20_ b22_).bind fun c25_ =>
        if (c25_.gKind != 1) = true then
          some (.ret b22_)
        else
          (at' d20_ b22_).bind fun c26_ =>
          if (decide (c26_.gTo < 0)) = true then
            some (.ret b22_)
          else
            (at' d20_ b22_).bind fun c27_ =>
            pspec_l13Follow_L1 k d20_ m c27_.gTo (wr.i64 (b23_ + 1))
    else
      some (.done ())
/-- spec.l13Follow -/
def pspec_l13Follow (k : Nat) (d20_ : List GCell) (b21_ : Int) : Option Int :=
  (pspec_l13Follow_L1 k d20_ k b21_ 0).bind fun out1 => match out1 with
  | .ret r => some r
  | .done () =>
    some (-1)
theorem cspec_l13Follow {k : Nat} {d20_ : List GCell} {b21_ : Int} {r : Int} (h : pspec_l13Follow k d20_ b21_ = some r) : FnO Try.prog 85 [.v (.sl (List.map GCell.c d20_)) [], .v (.int .i64 b21_) []] (.v (.int .i64 r) []) [] := by
  refine FnO.of Try.func85 (rfl : Try.f85.body = some _) (Nat.le_of_ble_eq_true (by kernel_rfl)) (Nat.le_of_ble_eq_true (by kernel_rfl)) ?_
  intro w0 X0 Fin pv0 pb
  unfold pspec_l13Follow at h
  refine Wc.seq ?_
  refine Wc.region [] [] [0, 1] [] [] ⟨[(0, (.v (.sl (List.map GCell.c d20_)), [])), (1, (.v (.int .i64 b21_), []))], [], []⟩ _ (by kernel_rfl) .nil ?_
  refine Wc.seq ?_
  refine Wc.seq ?_
  refine Wc.region [] [] [0, 1, 5] [] [] ⟨[(0, (.v (.sl (List.map GCell.c d20_)), [])), (1, (.v (.int .i64 b21_), [])), (5, (.v (.int .i64 0), []))], [], []⟩ _ (by kernel_rfl) .nil ?_
  obtain ⟨out1, h16, h⟩ := obind h
  refine Wc.lastJ (fun st => out1 = .done () ∧ st = ⟨[], [], []⟩) ?_ ?_
  · refine Wc.block ?_
    refine Wc.loop (fun m st => ∃ (b22_ : Int) (b23_ : Int), st = ⟨[(0, (.v (.sl (List.map GCell.c d20_)), [])), (1, (.v (.int .i64 b22_), [])), (5, (.v (.int .i64 b23_), []))], [], []⟩ ∧ pspec_l13Follow_L1 k d20_ m b22_ b23_ = some out1) ?_ k ⟨_, _, rfl, h16⟩
    rintro m st ⟨b22_, b23_, rfl, h16⟩
    cases m with
    | zero => exact (onone h16).elim
    | succ m =>
      refine Wc.seq ?_
      refine Wc.seq ?_
      refine Wc.region [{}, {}, { v := some (.int .i64 (d20_.length : Int)) }] [] [0, 1, 5, 9] [] [] ⟨[(0, (.v (.sl (List.map GCell.c d20_)), [])), (1, (.v (.int .i64 b22_), [])), (5, (.v (.int .i64 b23_), [])), (9, (.v (.bool (decide (b23_ ≤ (d20_.length : Int)))), []))], [], []⟩ _ (by kernel_rfl) (.cons (len_obl GCell.c d20_) .nil) ?_
      rcases oif h16 with ⟨h17, h16⟩ | ⟨h17, h16⟩
      · refine Wc.condT h17 (by kernel_rfl) ?_
        refine Wc.fix (st' := ⟨[(0, (.v (.sl (List.map GCell.c d20_)), [])), (1, (.v (.int .i64 b22_), [])), (5, (.v (.int .i64 b23_), []))], [], []⟩) [] [0, 1, 5] [] [] (by kernel_rfl) ?_
        refine Wc.skip ?_
        refine Wc.seq ?_
        refine Wc.block ?_
        refine Wc.seq ?_
        refine Wc.seq ?_
        obtain ⟨f24_, h18, h16⟩ := obind h16
        refine Wc.region [{}, {}, { v := some (.int .i64 (d20_.length : Int)) }, {}, { r := some (.v (.bool f24_) []) }] [] [0, 1, 5, 17] [] [] ⟨[(0, (.v (.sl (List.map GCell.c d20_)), [])), (1, (.v (.int .i64 b22_), [])), (5, (.v (.int .i64 b23_), [])), (17, (.v (.bool (!f24_)), []))], [], []⟩ _ (by kernel_rfl) (.cons (len_obl GCell.c d20_) (.cons (cspec_l01In h18) .nil)) ?_
        rcases oif h16 with ⟨h19, h16⟩ | ⟨h19, h16⟩
        · refine Wc.condT h19 (by kernel_rfl) ?_
          refine Wc.seq ?_
          refine Wc.region [] [] [4] [] [] ⟨[(4, (.v (.int .i64 (-1)), []))], [], []⟩ _ (by kernel_rfl) .nil ?_
          refine Wc.ret ?_
          obtain rfl := Option.some.inj h16
          obtain rfl := Option.some.inj h
          exact ⟨.inl rfl, by kernel_rfl, by kernel_rfl⟩
        · refine Wc.condF h19 (by kernel_rfl) ?_
          refine Wc.fix (st' := ⟨[(0, (.v (.sl (List.map GCell.c d20_)), [])), (1, (.v (.int .i64 b22_), [])), (5, (.v (.int .i64 b23_), []))], [], []⟩) [] [0, 1, 5] [] [] (by kernel_rfl) ?_
          refine Wc.skip ?_
          refine Wc.seq ?_
          refine Wc.seq ?_
          obtain ⟨c25_, h20, h16⟩ := obind h16
          rcases oif h16 with ⟨h21, h16⟩ | ⟨h21, h16⟩
          · refine Wc.region [{}, {}, { v := some (.vptr [.int .i64 c25_.gKind, .str c25_.gName, .int .i64 c25_.gNum, .int .i64 c25_.gTo, .sl (List.map cI.i64 c25_.gKids)]) }, {}, {}, {}, { re := some (.bool true) }] [] [0, 1, 5, 31] [] [] ⟨[(0, (.v (.sl (List.map GCell.c d20_)), [])), (1, (.v (.int .i64 b22_), [])), (5, (.v (.int .i64 b23_), [])), (31, (.v (.bool true), []))], [], []⟩ _ (by kernel_rfl) (.cons (at_obl (c := GCell.c) (GCell.c_eq c25_) GCell.c_len h20) (.cons (len_ok 1 [.int .i64 c25_.gKind, .str c25_.gName, .int .i64 c25_.gNum, .int .i64 c25_.gTo, .sl (List.map cI.i64 c25_.gKids)]) (.cons (congrArg AV.bool h21) .nil))) ?_
            refine Wc.condT rfl (by kernel_rfl) ?_
            refine Wc.seq ?_
            refine Wc.region [] [] [4] [] [] ⟨[(4, (.v (.int .i64 b22_), []))], [], []⟩ _ (by kernel_rfl) .nil ?_
            refine Wc.ret ?_
            obtain rfl := Option.some.inj h16
            obtain rfl := Option.some.inj h
            exact ⟨.inl rfl, by kernel_rfl, by kernel_rfl⟩
          · obtain ⟨c26_, h22, h16⟩ := obind h16
            refine Wc.region [{}, {}, { v := some (.vptr [.int .i64 c25_.gKind, .str c25_.gName, .int .i64 c25_.gNum, .int .i64 c25_.gTo, .sl (List.map cI.i64 c25_.gKids)]) }, {}, {}, {}, { re := some (.bool false) }, {}, {}, { v := some (.vptr [.int .i64 c26_.gKind, .str c26_.gName, .int .i64 c26_.gNum, .int .i64 c26_.gTo, .sl (List.map cI.i64 c26_.gKids)]) }] [] [0, 1, 5, 31] [] [] ⟨[(0, (.v (.sl (List.map GCell.c d20_)), [])), (1, (.v (.int .i64 b22_), [])), (5, (.v (.int .i64 b23_), [])), (31, (.v (.bool (decide (c26_.gTo < 0))), []))], [], []⟩ _ (by kernel_rfl) (.cons (at_obl (c := GCell.c) (GCell.c_eq c25_) GCell.c_len h20) (.cons (len_ok 1 [.int .i64 c25_.gKind, .str c25_.gName, .int .i64 c25_.gNum, .int .i64 c25_.gTo, .sl (List.map cI.i64 c25_.gKids)]) (.cons (congrArg AV.bool h21) (.cons (at_obl (c := GCell.c) (GCell.c_eq c26_) GCell.c_len h22) (.cons (len_ok 1 [.int .i64 c26_.gTo, .sl (List.map cI.i64 c26_.gKids)]) .nil))))) ?_
            rcases oif h16 with ⟨h23, h16⟩ | ⟨h23, h16⟩
            · refine Wc.condT h23 (by kernel_rfl) ?_
              refine Wc.seq ?_
              refine Wc.region [] [] [4] [] [] ⟨[(4, (.v (.int .i64 b22_), []))], [], []⟩ _ (by kernel_rfl) .nil ?_
              refine Wc.ret ?_
              obtain rfl := Option.some.inj h16
              obtain rfl := Option.some.inj h
              exact ⟨.inl rfl, by kernel_rfl, by kernel_rfl⟩
            · refine Wc.condF h23 (by kernel_rfl) ?_
              refine Wc.fix (st' := ⟨[(0, (.v (.sl (List.map GCell.c d20_)), [])), (1, (.v (.int .i64 b22_), [])), (5, (.v (.int .i64 b23_), []))], [], []⟩) [] [0, 1, 5] [] [] (by kernel_rfl) ?_
              refine Wc.skip ?_
              obtain ⟨c27_, h24, h16⟩ := obind h16
              refine Wc.region [{}, {}, { v := some (.vptr [.int .i64 c27_.gKind, .str c27_.gName, .int .i64 c27_.gNum, .int .i64 c27_.gTo, .sl (List.map cI.i64 c27_.gKids)]) }] [] [0, 1, 5] [] [] ⟨[(0, (.v (.sl (List.map GCell.c d20_)), [])), (1, (.v (.int .i64 c27_.gTo), [])), (5, (.v (.int .i64 b23_), []))], [], []⟩ _ (by kernel_rfl) (.cons (at_obl (c := GCell.c) (GCell.c_eq c27_) GCell.c_len h24) (.cons (len_ok 1 [.int .i64 c27_.gTo, .sl (List.map cI.i64 c27_.gKids)]) .nil)) ?_
              refine Wc.region [] [] [0, 1, 5] [] [] ⟨[(0, (.v (.sl (List.map GCell.c d20_)), [])), (1, (.v (.int .i64 c27_.gTo), [])), (5, (.v (.int .i64 (wr.i64 (b23_ + 1))), []))], [], []⟩ _ (by kernel_rfl) .nil ?_
              exact ⟨_, Nat.lt_succ_self _, _, _, rfl, h16⟩
      · refine Wc.condF h17 (by kernel_rfl) ?_
        refine Wc.fix (st' := ⟨[], [], []⟩) [] [] [] [] (by kernel_rfl) ?_
        refine Wc.exit ?_
        obtain rfl := Option.some.inj h16
        exact ⟨rfl, rfl⟩
  · rintro st ⟨rfl, rfl⟩
    refine Wc.seq ?_
    refine Wc.region [] [] [4] [] [] ⟨[(4, (.v (.int .i64 (-1)), []))], [], []⟩ _ (by kernel_rfl) .nil ?_
    refine Wc.ret ?_
    obtain rfl := Option.some.inj h
    exact ⟨.inl rfl, by kernel_rfl, by kernel_rfl⟩

/-- spec.FollowCell -/
def pspec_FollowCell (k : Nat) (e28_ : GHeap) (b29_ : Int) : Option Int :=
  (pspec_l13Follow k e28_.gCells b29_).bind fun b30_ =>
  some b30_
theorem cspec_FollowCell {k : Nat} {e28_ : GHeap} {b29_ : Int} {r : Int} (h : pspec_FollowCell k e28_ b29_ = some r) : FnO Try.prog 47 [.v (.agg [.sl (List.map GCell.c e28_.gCells), .sl (List.map cI.i64 e28_.gTrail)]) [], .v (.int .i64 b29_) []] (.v (.int .i64 r) []) [] := by
  refine FnO.of Try.func47 (rfl : Try.f47.body = some _) (Nat.le_of_ble_eq_true (by kernel_rfl)) (Nat.le_of_ble_eq_true (by kernel_rfl)) ?_
  intro w0 X0 Fin pv0 pb
  unfold pspec_FollowCell at h
  refine Wc.seq ?_
  refine Wc.region [] [] [1, 2] [2] [] ⟨[(1, (.v (.int .i64 b29_), [])), (2, (.ptr 2 0, []))], [(2, .cells [.sl (List.map GCell.c e28_.gCells), .sl (List.map cI.i64 e28_.gTrail)] [])], []⟩ _ (by kernel_rfl) .nil ?_
  refine Wc.seq ?_
  obtain ⟨b30_, h25, h⟩ := obind h
  refine Wc.region [{}, {}, {}, { r := some (.v (.int .i64 b30_) []) }] [] [4] [] [] ⟨[(4, (.v (.int .i64 b30_), []))], [], []⟩ _ (by kernel_rfl) (.cons (cspec_l13Follow h25) .nil) ?_
  refine Wc.ret ?_
  obtain rfl := Option.some.inj h
  exact ⟨.inl rfl, by kernel_rfl, by kernel_rfl⟩

def pspec_HeapOk_L3 (k : Nat) (c33_ : GCell) (e31_ : GHeap) : Nat → Int → Option (Out Bool Unit)
  | 0, _ => none
  | m + 1, b34_ =>
    if (decide (b34_ < (c33_.gKids.length : Int))) = true then
      (at' c33_.gKids b34_).bind fun b35_ =>
      (pspec_l01In k b35_ 0 (wr.i64 ((e31_.gCells.length : Int) - 1))).bind fun f36_ =>
      if (!f36_) = true then
        some (.ret false)
      else
        pspec_HeapOk_L3 k c33_ e31_ m (wr.i64 (b34_ + 1))
    else
      some (.done ())
def pspec_HeapOk_L4 (k : Nat) (b32_ : Int) (c33_ : GCell) (e31_ : GHeap) : Nat → Int → Option (Out Bool Unit)
  | 0, _ => none
  | m + 1, b37_ =>
    if (decide (b37_ < b32_)) = true then
      if (c33_.gKind == 1) = true then
        (at' e31_.gCells b37_).bind fun c38_ =>
        if (c38_.gKind == 1) = true then
          (at' e31_.gCells b37_).bind fun c39_ =>
          if (c39_.gNum == c33_.gNum) = true then
            some (.ret false)
          else
            pspec_HeapOk_L4 k b32_ c33_ e31_ m (wr.i64 (b37_ + 1))
        else
          pspec_HeapOk_L4 k b32_ c33_ e31_ m (wr.i64 (b37_ + 1))
      else
        some (.done ())
    else
      some (.done ())
def pspec_HeapOk_J2 (k : Nat) (bk_ : Int → Option (Out Bool Unit)) (c33_ : GCell) (e31_ : GHeap) (b32_ : Int) : Option (Out Bool Unit) :=
  (pspec_HeapOk_L3 k c33_ e31_ k 0).bind fun out3 => match out3 with
  | .ret r => some (.ret r)
  | .done () =>
    (pspec_HeapOk_L4 k b32_ c33_ e31_ k 0).bind fun out4 => match out4 with
    | .ret r => some (.ret r)
    | .done () =>
      bk_ (wr.i64 (b32_ + 1))
def pspec_HeapOk_L1 (k : Nat) (e31_ : GHeap) : Nat → Int → Option (Out Bool Unit)
  | 0, _ => none
  | m + 1, b32_ =>
    if (decide (b32_ < (e31_.gCells.length : Int))) = true then
      (at' e31_.gCells b32_).bind fun c33_ =>
      (pspec_l01In k c33_.gKind 1 4).bind fun f40_ =>
      if (!f40_) = true then
        some (.ret false)
      else
        if (c33_.gKind == 1) = true then
          (pspec_l01In k c33_.gTo (-1) (wr.i64 ((e31_.gCells.length : Int) - 1))).bind fun f41_ =>
          if (!f41_) = true then
            some (.ret false)
          else
            (pspec_FollowCell k e31_ b32_).bind fun b42_ =>
            if (decide (b42_ < 0)) = true then
              some (.ret false)
            else
              pspec_HeapOk_J2 k (pspec_HeapOk_L1 k e31_ m) c33_ e31_ b32_
        else
          pspec_HeapOk_J2 k (pspec_HeapOk_L1 k e31_ m) c33_ e31_ b32_
    else
      some (.done ())
def pspec_HeapOk_L5 (k : Nat) (e31_ : GHeap) : Nat → Int → Option (Out Bool Unit)
  | 0, _ => none
  | m + 1, b43_ =>
    if (decide (b43_ < (e31_.gTrail.length : Int))) = true then
      (at' e31_.gTrail b43_).bind fun b44_ =>
      (pspec_l01In k b44_ 0 (wr.i64 ((e31_.gCells.length : Int) - 1))).bind fun f45_ =>
      if (!f45_) = true then
        some (.ret false)
      else
        (at' e31_.gTrail b43_).bind fun b46_ =>
        (at' e31_.gCells b46_).bind fun c47_ =>
        if (c47_.gKind != 1) = true then
          some (.ret false)
        else
          pspec_HeapOk_L5 k e31_ m (wr.i64 (b43_ + 1))
    else
      some (.done ())
/-- spec.HeapOk -/
def pspec_HeapOk (k : Nat) (e31_ : GHeap) : Option Bool :=
  if (decide ((e31_.gCells.length : Int) > 60000)) = true then
    some false
  else
    (pspec_HeapOk_L1 k e31_ k 0).bind fun out1 => match out1 with
    | .ret r => some r
    | .done () =>
      (pspec_HeapOk_L5 k e31_ k 0).bind fun out5 => match out5 with
      | .ret r => some r
      | .done () =>
        some true
set_option maxHeartbeats 4000000 in
theorem cspec_HeapOk {k : Nat} {e31_ : GHeap} {r : Bool} (h : pspec_HeapOk k e31_ = some r) : FnO Try.prog 10 [.v (.agg [.sl (List.map GCell.c e31_.gCells), .sl (List.map cI.i64 e31_.gTrail)]) []] (.v (.bool r) []) [] := by
  refine FnO.of Try.func10 (rfl : Try.f10.body = some _) (Nat.le_of_ble_eq_true (by kernel_rfl)) (Nat.le_of_ble_eq_true (by kernel_rfl)) ?_
  intro w0 X0 Fin pv0 pb
  unfold pspec_HeapOk at h
  refine Wc.seq ?_
  refine Wc.region [] [] [1] [1] [] ⟨[(1, (.ptr 1 0, []))], [(1, .cells [.sl (List.map GCell.c e31_.gCells), .sl (List.map cI.i64 e31_.gTrail)] [])], []⟩ _ (by kernel_rfl) .nil ?_
  refine Wc.seq ?_
  refine Wc.region [{}, {}, { v := some (.int .i64 (e31_.gCells.length : Int)) }] [] [1, 3] [1] [] ⟨[(1, (.ptr 1 0, [])), (3, (.v (.int .i64 (e31_.gCells.length : Int)), []))], [(1, .cells [.sl (List.map GCell.c e31_.gCells), .sl (List.map cI.i64 e31_.gTrail)] [])], []⟩ _ (by kernel_rfl) (.cons (len_obl GCell.c e31_.gCells) .nil) ?_
  refine Wc.seq ?_
  refine Wc.seq ?_
  refine Wc.region [] [] [1, 3, 13] [1] [] ⟨[(1, (.ptr 1 0, [])), (3, (.v (.int .i64 (e31_.gCells.length : Int)), [])), (13, (.v (.bool (decide ((e31_.gCells.length : Int) > 60000))), []))], [(1, .cells [.sl (List.map GCell.c e31_.gCells), .sl (List.map cI.i64 e31_.gTrail)] [])], []⟩ _ (by kernel_rfl) .nil ?_
  rcases oif h with ⟨h26, h⟩ | ⟨h26, h⟩
  · refine Wc.condT h26 (by kernel_rfl) ?_
    refine Wc.seq ?_
    refine Wc.region [] [] [2] [] [] ⟨[(2, (.v (.bool false), []))], [], []⟩ _ (by kernel_rfl) .nil ?_
    refine Wc.ret ?_
    obtain rfl := Option.some.inj h
    exact ⟨.inl rfl, by kernel_rfl, by kernel_rfl⟩
  · refine Wc.condF h26 (by kernel_rfl) ?_
    refine Wc.fix (st' := ⟨[(1, (.ptr 1 0, [])), (3, (.v (.int .i64 (e31_.gCells.length : Int)), []))], [(1, .cells [.sl (List.map GCell.c e31_.gCells), .sl (List.map cI.i64 e31_.gTrail)] [])], []⟩) [] [1, 3] [1] [] (by kernel_rfl) ?_
    refine Wc.skip ?_
    refine Wc.seq ?_
    refine Wc.seq ?_
    refine Wc.region [] [] [1, 3, 4] [1] [] ⟨[(1, (.ptr 1 0, [])), (3, (.v (.int .i64 (e31_.gCells.length : Int)), [])), (4, (.v (.int .i64 0), []))], [(1, .cells [.sl (List.map GCell.c e31_.gCells), .sl (List.map cI.i64 e31_.gTrail)] [])], []⟩ _ (by kernel_rfl) .nil ?_
    obtain ⟨out1, h27, h⟩ := obind h
    refine Wc.lastJ (fun st => out1 = .done () ∧ st = ⟨[(1, (.ptr 1 0, [])), (3, (.v (.int .i64 (e31_.gCells.length : Int)), []))], [(1, .cells [.sl (List.map GCell.c e31_.gCells), .sl (List.map cI.i64 e31_.gTrail)] [])], []⟩) ?_ ?_
    · refine Wc.block ?_
      refine Wc.loop (fun m st => ∃ (b32_ : Int), st = ⟨[(1, (.ptr 1 0, [])), (3, (.v (.int .i64 (e31_.gCells.length : Int)), [])), (4, (.v (.int .i64 b32_), []))], [(1, .cells [.sl (List.map GCell.c e31_.gCells), .sl (List.map cI.i64 e31_.gTrail)] [])], []⟩ ∧ pspec_HeapOk_L1 k e31_ m b32_ = some out1) ?_ k ⟨_, rfl, h27⟩
      rintro m st ⟨b32_, rfl, h27⟩
      cases m with
      | zero => exact (onone h27).elim
      | succ m =>
        refine Wc.seq ?_
        refine Wc.seq ?_
        refine Wc.region [] [] [1, 3, 4, 16] [1] [] ⟨[(1, (.ptr 1 0, [])), (3, (.v (.int .i64 (e31_.gCells.length : Int)), [])), (4, (.v (.int .i64 b32_), [])), (16, (.v (.bool (decide (b32_ < (e31_.gCells.length : Int)))), []))], [(1, .cells [.sl (List.map GCell.c e31_.gCells), .sl (List.map cI.i64 e31_.gTrail)] [])], []⟩ _ (by kernel_rfl) .nil ?_
        rcases oif h27 with ⟨h28, h27⟩ | ⟨h28, h27⟩
        · refine Wc.condT h28 (by kernel_rfl) ?_
          refine Wc.fix (st' := ⟨[(1, (.ptr 1 0, [])), (3, (.v (.int .i64 (e31_.gCells.length : Int)), [])), (4, (.v (.int .i64 b32_), []))], [(1, .cells [.sl (List.map GCell.c e31_.gCells), .sl (List.map cI.i64 e31_.gTrail)] [])], []⟩) [] [1, 3, 4] [1] [] (by kernel_rfl) ?_
          refine Wc.skip ?_
          refine Wc.seq ?_
          refine Wc.block ?_
          refine Wc.seq ?_
          obtain ⟨c33_, h29, h27⟩ := obind h27
          refine Wc.region [{}, {}, {}, { v := some (.vptr [.int .i64 c33_.gKind, .str c33_.gName, .int .i64 c33_.gNum, .int .i64 c33_.gTo, .sl (List.map cI.i64 c33_.gKids)]) }] [] [1, 3, 4, 5] [1, 5] [] ⟨[(1, (.ptr 1 0, [])), (3, (.v (.int .i64 (e31_.gCells.length : Int)), [])), (4, (.v (.int .i64 b32_), [])), (5, (.ptr 5 0, []))], [(1, .cells [.sl (List.map GCell.c e31_.gCells), .sl (List.map cI.i64 e31_.gTrail)] []), (5, .cells [.int .i64 c33_.gKind, .str c33_.gName, .int .i64 c33_.gNum, .int .i64 c33_.gTo, .sl (List.map cI.i64 c33_.gKids)] [])], []⟩ _ (by kernel_rfl) (.cons (at_obl (c := GCell.c) (GCell.c_eq c33_) GCell.c_len h29) (.cons (len_ok 5 [.int .i64 c33_.gKind, .str c33_.gName, .int .i64 c33_.gNum, .int .i64 c33_.gTo, .sl (List.map cI.i64 c33_.gKids)]) .nil)) ?_
          refine Wc.seqJ (fun st => st = ⟨[(1, (.ptr 1 0, [])), (3, (.v (.int .i64 (e31_.gCells.length : Int)), [])), (4, (.v (.int .i64 b32_), [])), (5, (.ptr 5 0, []))], [(1, .cells [.sl (List.map GCell.c e31_.gCells), .sl (List.map cI.i64 e31_.gTrail)] []), (5, .cells [.int .i64 c33_.gKind, .str c33_.gName, .int .i64 c33_.gNum, .int .i64 c33_.gTo, .sl (List.map cI.i64 c33_.gKids)] [])], []⟩ ∧ pspec_HeapOk_J2 k (pspec_HeapOk_L1 k e31_ m) c33_ e31_ b32_ = some out1) ?_ ?_
          · refine Wc.seq ?_
            obtain ⟨f40_, h42, h27⟩ := obind h27
            rcases oif h27 with ⟨h43, h27⟩ | ⟨h43, h27⟩
            · refine Wc.region [{}, {}, { r := some (.v (.bool f40_) []) }, {}, { re := some (.bool true) }] [] [1, 3, 4, 5, 46] [1, 5] [] ⟨[(1, (.ptr 1 0, [])), (3, (.v (.int .i64 (e31_.gCells.length : Int)), [])), (4, (.v (.int .i64 b32_), [])), (5, (.ptr 5 0, [])), (46, (.v (.bool true), []))], [(1, .cells [.sl (List.map GCell.c e31_.gCells), .sl (List.map cI.i64 e31_.gTrail)] []), (5, .cells [.int .i64 c33_.gKind, .str c33_.gName, .int .i64 c33_.gNum, .int .i64 c33_.gTo, .sl (List.map cI.i64 c33_.gKids)] [])], []⟩ _ (by kernel_rfl) (.cons (cspec_l01In h42) (.cons (congrArg AV.bool h43) .nil)) ?_
              refine Wc.condT rfl (by kernel_rfl) ?_
              refine Wc.seq ?_
              refine Wc.region [] [] [2] [] [] ⟨[(2, (.v (.bool false), []))], [], []⟩ _ (by kernel_rfl) .nil ?_
              refine Wc.ret ?_
              obtain rfl := Option.some.inj h27
              obtain rfl := Option.some.inj h
              exact ⟨.inl rfl, by kernel_rfl, by kernel_rfl⟩
            · rcases oif h27 with ⟨h44, h27⟩ | ⟨h44, h27⟩
              · obtain ⟨f41_, h45, h27⟩ := obind h27
                rcases oif h27 with ⟨h46, h27⟩ | ⟨h46, h27⟩
                · refine Wc.region [{}, {}, { r := some (.v (.bool f40_) []) }, {}, { re := some (.bool false) }, {}, {}, {}, { re := some (.bool true) }, {}, {}, {}, {}, { r := some (.v (.bool f41_) []) }, {}, { re := some (.bool true) }] [] [1, 3, 4, 5, 46] [1, 5] [] ⟨[(1, (.ptr 1 0, [])), (3, (.v (.int .i64 (e31_.gCells.length : Int)), [])), (4, (.v (.int .i64 b32_), [])), (5, (.ptr 5 0, [])), (46, (.v (.bool true), []))], [(1, .cells [.sl (List.map GCell.c e31_.gCells), .sl (List.map cI.i64 e31_.gTrail)] []), (5, .cells [.int .i64 c33_.gKind, .str c33_.gName, .int .i64 c33_.gNum, .int .i64 c33_.gTo, .sl (List.map cI.i64 c33_.gKids)] [])], []⟩ _ (by kernel_rfl) (.cons (cspec_l01In h42) (.cons (congrArg AV.bool h43) (.cons (congrArg AV.bool h44) (.cons (cspec_l01In h45) (.cons (congrArg AV.bool h46) .nil))))) ?_
                  refine Wc.condT rfl (by kernel_rfl) ?_
                  refine Wc.seq ?_
                  refine Wc.region [] [] [2] [] [] ⟨[(2, (.v (.bool false), []))], [], []⟩ _ (by kernel_rfl) .nil ?_
                  refine Wc.ret ?_
                  obtain rfl := Option.some.inj h27
                  obtain rfl := Option.some.inj h
                  exact ⟨.inl rfl, by kernel_rfl, by kernel_rfl⟩
                · obtain ⟨b42_, h47, h27⟩ := obind h27
                  refine Wc.region [{}, {}, { r := some (.v (.bool f40_) []) }, {}, { re := some (.bool false) }, {}, {}, {}, { re := some (.bool true) }, {}, {}, {}, {}, { r := some (.v (.bool f41_) []) }, {}, { re := some (.bool false) }, {}, {}, { r := some (.v (.int .i64 b42_) []) }] [] [1, 3, 4, 5, 46] [1, 5] [] ⟨[(1, (.ptr 1 0, [])), (3, (.v (.int .i64 (e31_.gCells.length : Int)), [])), (4, (.v (.int .i64 b32_), [])), (5, (.ptr 5 0, [])), (46, (.v (.bool (decide (b42_ < 0))), []))], [(1, .cells [.sl (List.map GCell.c e31_.gCells), .sl (List.map cI.i64 e31_.gTrail)] []), (5, .cells [.int .i64 c33_.gKind, .str c33_.gName, .int .i64 c33_.gNum, .int .i64 c33_.gTo, .sl (List.map cI.i64 c33_.gKids)] [])], []⟩ _ (by kernel_rfl) (.cons (cspec_l01In h42) (.cons (congrArg AV.bool h43) (.cons (congrArg AV.bool h44) (.cons (cspec_l01In h45) (.cons (congrArg AV.bool h46) (.cons (cspec_FollowCell h47) .nil)))))) ?_
                  rcases oif h27 with ⟨h48, h27⟩ | ⟨h48, h27⟩
                  · refine Wc.condT h48 (by kernel_rfl) ?_
                    refine Wc.seq ?_
                    refine Wc.region [] [] [2] [] [] ⟨[(2, (.v (.bool false), []))], [], []⟩ _ (by kernel_rfl) .nil ?_
                    refine Wc.ret ?_
                    obtain rfl := Option.some.inj h27
                    obtain rfl := Option.some.inj h
                    exact ⟨.inl rfl, by kernel_rfl, by kernel_rfl⟩
                  · refine Wc.condF h48 (by kernel_rfl) ?_
                    refine Wc.fix (st' := ⟨[(1, (.ptr 1 0, [])), (3, (.v (.int .i64 (e31_.gCells.length : Int)), [])), (4, (.v (.int .i64 b32_), [])), (5, (.ptr 5 0, []))], [(1, .cells [.sl (List.map GCell.c e31_.gCells), .sl (List.map cI.i64 e31_.gTrail)] []), (5, .cells [.int .i64 c33_.gKind, .str c33_.gName, .int .i64 c33_.gNum, .int .i64 c33_.gTo, .sl (List.map cI.i64 c33_.gKids)] [])], []⟩) [] [1, 3, 4, 5] [1, 5] [] (by kernel_rfl) ?_
                    refine Wc.skip ?_
                    exact ⟨rfl, h27⟩
              · refine Wc.region [{}, {}, { r := some (.v (.bool f40_) []) }, {}, { re := some (.bool false) }, {}, {}, {}, { re := some (.bool false) }] [] [1, 3, 4, 5, 46] [1, 5] [] ⟨[(1, (.ptr 1 0, [])), (3, (.v (.int .i64 (e31_.gCells.length : Int)), [])), (4, (.v (.int .i64 b32_), [])), (5, (.ptr 5 0, [])), (46, (.v (.bool false), []))], [(1, .cells [.sl (List.map GCell.c e31_.gCells), .sl (List.map cI.i64 e31_.gTrail)] []), (5, .cells [.int .i64 c33_.gKind, .str c33_.gName, .int .i64 c33_.gNum, .int .i64 c33_.gTo, .sl (List.map cI.i64 c33_.gKids)] [])], []⟩ _ (by kernel_rfl) (.cons (cspec_l01In h42) (.cons (congrArg AV.bool h43) (.cons (congrArg AV.bool h44) .nil))) ?_
                refine Wc.condF rfl (by kernel_rfl) ?_
                refine Wc.fix (st' := ⟨[(1, (.ptr 1 0, [])), (3, (.v (.int .i64 (e31_.gCells.length : Int)), [])), (4, (.v (.int .i64 b32_), [])), (5, (.ptr 5 0, []))], [(1, .cells [.sl (List.map GCell.c e31_.gCells), .sl (List.map cI.i64 e31_.gTrail)] []), (5, .cells [.int .i64 c33_.gKind, .str c33_.gName, .int .i64 c33_.gNum, .int .i64 c33_.gTo, .sl (List.map cI.i64 c33_.gKids)] [])], []⟩) [] [1, 3, 4, 5] [1, 5] [] (by kernel_rfl) ?_
                refine Wc.skip ?_
                exact ⟨rfl, h27⟩
          · rintro st ⟨rfl, h27⟩
            refine Wc.seq ?_
            refine Wc.seq ?_
            refine Wc.region [] [] [1, 3, 4, 5, 6] [1, 5] [] ⟨[(1, (.ptr 1 0, [])), (3, (.v (.int .i64 (e31_.gCells.length : Int)), [])), (4, (.v (.int .i64 b32_), [])), (5, (.ptr 5 0, [])), (6, (.v (.int .i64 0), []))], [(1, .cells [.sl (List.map GCell.c e31_.gCells), .sl (List.map cI.i64 e31_.gTrail)] []), (5, .cells [.int .i64 c33_.gKind, .str c33_.gName, .int .i64 c33_.gNum, .int .i64 c33_.gTo, .sl (List.map cI.i64 c33_.gKids)] [])], []⟩ _ (by kernel_rfl) .nil ?_
            obtain ⟨out3, h30, h27⟩ := obind h27
            refine Wc.lastJ (fun st => out3 = .done () ∧ st = ⟨[(1, (.ptr 1 0, [])), (3, (.v (.int .i64 (e31_.gCells.length : Int)), [])), (4, (.v (.int .i64 b32_), [])), (5, (.ptr 5 0, []))], [(1, .cells [.sl (List.map GCell.c e31_.gCells), .sl (List.map cI.i64 e31_.gTrail)] []), (5, .cells [.int .i64 c33_.gKind, .str c33_.gName, .int .i64 c33_.gNum, .int .i64 c33_.gTo, .sl (List.map cI.i64 c33_.gKids)] [])], []⟩) ?_ ?_
            · refine Wc.block ?_
              refine Wc.loop (fun m st => ∃ (b34_ : Int), st = ⟨[(1, (.ptr 1 0, [])), (3, (.v (.int .i64 (e31_.gCells.length : Int)), [])), (4, (.v (.int .i64 b32_), [])), (5, (.ptr 5 0, [])), (6, (.v (.int .i64 b34_), []))], [(1, .cells [.sl (List.map GCell.c e31_.gCells), .sl (List.map cI.i64 e31_.gTrail)] []), (5, .cells [.int .i64 c33_.gKind, .str c33_.gName, .int .i64 c33_.gNum, .int .i64 c33_.gTo, .sl (List.map cI.i64 c33_.gKids)] [])], []⟩ ∧ pspec_HeapOk_L3 k c33_ e31_ m b34_ = some out3) ?_ k ⟨_, rfl, h30⟩
              rintro m st ⟨b34_, rfl, h30⟩
              cases m with
              | zero => exact (onone h30).elim
              | succ m =>
                refine Wc.seq ?_
                refine Wc.seq ?_
                refine Wc.region [{}, {}, {}, { v := some (.int .i64 (c33_.gKids.length : Int)) }] [] [1, 3, 4, 5, 6, 51] [1, 5] [] ⟨[(1, (.ptr 1 0, [])), (3, (.v (.int .i64 (e31_.gCells.length : Int)), [])), (4, (.v (.int .i64 b32_), [])), (5, (.ptr 5 0, [])), (6, (.v (.int .i64 b34_), [])), (51, (.v (.bool (decide (b34_ < (c33_.gKids.length : Int)))), []))], [(1, .cells [.sl (List.map GCell.c e31_.gCells), .sl (List.map cI.i64 e31_.gTrail)] []), (5, .cells [.int .i64 c33_.gKind, .str c33_.gName, .int .i64 c33_.gNum, .int .i64 c33_.gTo, .sl (List.map cI.i64 c33_.gKids)] [])], []⟩ _ (by kernel_rfl) (.cons (len_obl cI.i64 c33_.gKids) .nil) ?_
                rcases oif h30 with ⟨h31, h30⟩ | ⟨h31, h30⟩
                · refine Wc.condT h31 (by kernel_rfl) ?_
                  refine Wc.fix (st' := ⟨[(1, (.ptr 1 0, [])), (3, (.v (.int .i64 (e31_.gCells.length : Int)), [])), (4, (.v (.int .i64 b32_), [])), (5, (.ptr 5 0, [])), (6, (.v (.int .i64 b34_), []))], [(1, .cells [.sl (List.map GCell.c e31_.gCells), .sl (List.map cI.i64 e31_.gTrail)] []), (5, .cells [.int .i64 c33_.gKind, .str c33_.gName, .int .i64 c33_.gNum, .int .i64 c33_.gTo, .sl (List.map cI.i64 c33_.gKids)] [])], []⟩) [] [1, 3, 4, 5, 6] [1, 5] [] (by kernel_rfl) ?_
                  refine Wc.skip ?_
                  refine Wc.seq ?_
                  refine Wc.block ?_
                  refine Wc.seq ?_
                  obtain ⟨b35_, h32, h30⟩ := obind h30
                  obtain ⟨f36_, h33, h30⟩ := obind h30
                  refine Wc.region [{}, {}, {}, { v := some (.vptr [.int .i64 b35_]) }, {}, {}, {}, { r := some (.v (.bool f36_) []) }] [] [1, 3, 4, 5, 6, 62] [1, 5] [] ⟨[(1, (.ptr 1 0, [])), (3, (.v (.int .i64 (e31_.gCells.length : Int)), [])), (4, (.v (.int .i64 b32_), [])), (5, (.ptr 5 0, [])), (6, (.v (.int .i64 b34_), [])), (62, (.v (.bool (!f36_)), []))], [(1, .cells [.sl (List.map GCell.c e31_.gCells), .sl (List.map cI.i64 e31_.gTrail)] []), (5, .cells [.int .i64 c33_.gKind, .str c33_.gName, .int .i64 c33_.gNum, .int .i64 c33_.gTo, .sl (List.map cI.i64 c33_.gKids)] [])], []⟩ _ (by kernel_rfl) (.cons (at_obl (c := cI.i64) rfl cI.i64_len h32) (.cons (len_ok 1 [.int .i64 b35_]) (.cons (cspec_l01In h33) .nil))) ?_
                  rcases oif h30 with ⟨h34, h30⟩ | ⟨h34, h30⟩
                  · refine Wc.condT h34 (by kernel_rfl) ?_
                    refine Wc.seq ?_
                    refine Wc.region [] [] [2] [] [] ⟨[(2, (.v (.bool false), []))], [], []⟩ _ (by kernel_rfl) .nil ?_
                    refine Wc.ret ?_
                    obtain rfl := Option.some.inj h30
                    obtain rfl := Option.some.inj h27
                    obtain rfl := Option.some.inj h
                    exact ⟨.inl rfl, by kernel_rfl, by kernel_rfl⟩
                  · refine Wc.condF h34 (by kernel_rfl) ?_
                    refine Wc.fix (st' := ⟨[(1, (.ptr 1 0, [])), (3, (.v (.int .i64 (e31_.gCells.length : Int)), [])), (4, (.v (.int .i64 b32_), [])), (5, (.ptr 5 0, [])), (6, (.v (.int .i64 b34_), []))], [(1, .cells [.sl (List.map GCell.c e31_.gCells), .sl (List.map cI.i64 e31_.gTrail)] []), (5, .cells [.int .i64 c33_.gKind, .str c33_.gName, .int .i64 c33_.gNum, .int .i64 c33_.gTo, .sl (List.map cI.i64 c33_.gKids)] [])], []⟩) [] [1, 3, 4, 5, 6] [1, 5] [] (by kernel_rfl) ?_
                    refine Wc.skip ?_
                    refine Wc.region [] [] [1, 3, 4, 5, 6] [1, 5] [] ⟨[(1, (.ptr 1 0, [])), (3, (.v (.int .i64 (e31_.gCells.length : Int)), [])), (4, (.v (.int .i64 b32_), [])), (5, (.ptr 5 0, [])), (6, (.v (.int .i64 (wr.i64 (b34_ + 1))), []))], [(1, .cells [.sl (List.map GCell.c e31_.gCells), .sl (List.map cI.i64 e31_.gTrail)] []), (5, .cells [.int .i64 c33_.gKind, .str c33_.gName, .int .i64 c33_.gNum, .int .i64 c33_.gTo, .sl (List.map cI.i64 c33_.gKids)] [])], []⟩ _ (by kernel_rfl) .nil ?_
                    exact ⟨_, Nat.lt_succ_self _, _, rfl, h30⟩
                · refine Wc.condF h31 (by kernel_rfl) ?_
                  refine Wc.fix (st' := ⟨[(1, (.ptr 1 0, [])), (3, (.v (.int .i64 (e31_.gCells.length : Int)), [])), (4, (.v (.int .i64 b32_), [])), (5, (.ptr 5 0, []))], [(1, .cells [.sl (List.map GCell.c e31_.gCells), .sl (List.map cI.i64 e31_.gTrail)] []), (5, .cells [.int .i64 c33_.gKind, .str c33_.gName, .int .i64 c33_.gNum, .int .i64 c33_.gTo, .sl (List.map cI.i64 c33_.gKids)] [])], []⟩) [] [1, 3, 4, 5] [1, 5] [] (by kernel_rfl) ?_
                  refine Wc.exit ?_
                  obtain rfl := Option.some.inj h30
                  exact ⟨rfl, rfl⟩
            · rintro st ⟨rfl, rfl⟩
              refine Wc.seq ?_
              refine Wc.region [] [] [1, 3, 4, 5, 7] [1, 5] [] ⟨[(1, (.ptr 1 0, [])), (3, (.v (.int .i64 (e31_.gCells.length : Int)), [])), (4, (.v (.int .i64 b32_), [])), (5, (.ptr 5 0, [])), (7, (.v (.int .i64 0), []))], [(1, .cells [.sl (List.map GCell.c e31_.gCells), .sl (List.map cI.i64 e31_.gTrail)] []), (5, .cells [.int .i64 c33_.gKind, .str c33_.gName, .int .i64 c33_.gNum, .int .i64 c33_.gTo, .sl (List.map cI.i64 c33_.gKids)] [])], []⟩ _ (by kernel_rfl) .nil ?_
              obtain ⟨out4, h35, h27⟩ := obind h27
              refine Wc.lastJ (fun st => out4 = .done () ∧ st = ⟨[(1, (.ptr 1 0, [])), (3, (.v (.int .i64 (e31_.gCells.length : Int)), [])), (4, (.v (.int .i64 b32_), []))], [(1, .cells [.sl (List.map GCell.c e31_.gCells), .sl (List.map cI.i64 e31_.gTrail)] [])], []⟩) ?_ ?_
              · refine Wc.block ?_
                refine Wc.loop (fun m st => ∃ (b37_ : Int), st = ⟨[(1, (.ptr 1 0, [])), (3, (.v (.int .i64 (e31_.gCells.length : Int)), [])), (4, (.v (.int .i64 b32_), [])), (5, (.ptr 5 0, [])), (7, (.v (.int .i64 b37_), []))], [(1, .cells [.sl (List.map GCell.c e31_.gCells), .sl (List.map cI.i64 e31_.gTrail)] []), (5, .cells [.int .i64 c33_.gKind, .str c33_.gName, .int .i64 c33_.gNum, .int .i64 c33_.gTo, .sl (List.map cI.i64 c33_.gKids)] [])], []⟩ ∧ pspec_HeapOk_L4 k b32_ c33_ e31_ m b37_ = some out4) ?_ k ⟨_, rfl, h35⟩
                rintro m st ⟨b37_, rfl, h35⟩
                cases m with
                | zero => exact (onone h35).elim
                | succ m =>
                  refine Wc.seq ?_
                  refine Wc.seq ?_
                  rcases oif h35 with ⟨h36, h35⟩ | ⟨h36, h35⟩
                  · refine Wc.region [{}, {}, {}, { re := some (.bool true) }] [] [1, 3, 4, 5, 7, 70] [1, 5] [] ⟨[(1, (.ptr 1 0, [])), (3, (.v (.int .i64 (e31_.gCells.length : Int)), [])), (4, (.v (.int .i64 b32_), [])), (5, (.ptr 5 0, [])), (7, (.v (.int .i64 b37_), [])), (70, (.v (.bool (c33_.gKind == 1)), []))], [(1, .cells [.sl (List.map GCell.c e31_.gCells), .sl (List.map cI.i64 e31_.gTrail)] []), (5, .cells [.int .i64 c33_.gKind, .str c33_.gName, .int .i64 c33_.gNum, .int .i64 c33_.gTo, .sl (List.map cI.i64 c33_.gKids)] [])], []⟩ _ (by kernel_rfl) (.cons (congrArg AV.bool h36) .nil) ?_
                    rcases oif h35 with ⟨h37, h35⟩ | ⟨h37, h35⟩
                    · refine Wc.condT h37 (by kernel_rfl) ?_
                      refine Wc.fix (st' := ⟨[(1, (.ptr 1 0, [])), (3, (.v (.int .i64 (e31_.gCells.length : Int)), [])), (4, (.v (.int .i64 b32_), [])), (5, (.ptr 5 0, [])), (7, (.v (.int .i64 b37_), []))], [(1, .cells [.sl (List.map GCell.c e31_.gCells), .sl (List.map cI.i64 e31_.gTrail)] []), (5, .cells [.int .i64 c33_.gKind, .str c33_.gName, .int .i64 c33_.gNum, .int .i64 c33_.gTo, .sl (List.map cI.i64 c33_.gKids)] [])], []⟩) [] [1, 3, 4, 5, 7] [1, 5] [] (by kernel_rfl) ?_
                      refine Wc.skip ?_
                      refine Wc.seq ?_
                      refine Wc.block ?_
                      refine Wc.seq ?_
                      obtain ⟨c38_, h38, h35⟩ := obind h35
                      rcases oif h35 with ⟨h39, h35⟩ | ⟨h39, h35⟩
                      · obtain ⟨c39_, h40, h35⟩ := obind h35
                        refine Wc.draw hmix [{}, {}, {}, { v := some (.vptr [.int .i64 c38_.gKind, .str c38_.gName, .int .i64 c38_.gNum, .int .i64 c38_.gTo, .sl (List.map cI.i64 c38_.gKids)]) }, {}, {}, {}, { re := some (.bool true) }, {}, {}, {}, { v := some (.vptr [.int .i64 c39_.gKind, .str c39_.gName, .int .i64 c39_.gNum, .int .i64 c39_.gTo, .sl (List.map cI.i64 c39_.gKids)]) }] [] [1, 3, 4, 5, 7, 90] [1, 5] [] ⟨[(1, (.ptr 1 0, [])), (3, (.v (.int .i64 (e31_.gCells.length : Int)), [])), (4, (.v (.int .i64 b32_), [])), (5, (.ptr 5 0, [])), (7, (.v (.int .i64 b37_), [])), (90, (.v (.bool (c39_.gNum == c33_.gNum)), []))], [(1, .cells [.sl (List.map GCell.c e31_.gCells), .sl (List.map cI.i64 e31_.gTrail)] []), (5, .cells [.int .i64 c33_.gKind, .str c33_.gName, .int .i64 c33_.gNum, .int .i64 c33_.gTo, .sl (List.map cI.i64 c33_.gKids)] [])], []⟩ _ (by kernel_rfl) (fun X => by kernel_rfl) (.cons (at_obl (c := GCell.c) (GCell.c_eq c38_) GCell.c_len h38) (.cons (len_ok 1 [.int .i64 c38_.gKind, .str c38_.gName, .int .i64 c38_.gNum, .int .i64 c38_.gTo, .sl (List.map cI.i64 c38_.gKids)]) (.cons (congrArg AV.bool h39) (.cons (at_obl (c := GCell.c) (GCell.c_eq c39_) GCell.c_len h40) (.cons (len_ok 1 [.int .i64 c39_.gNum, .int .i64 c39_.gTo, .sl (List.map cI.i64 c39_.gKids)]) .nil))))) ?_
                        rcases oif h35 with ⟨h41, h35⟩ | ⟨h41, h35⟩
                        · refine Wc.condT h41 (by kernel_rfl) ?_
                          refine Wc.seq ?_
                          refine Wc.region [] [] [2] [] [] ⟨[(2, (.v (.bool false), []))], [], []⟩ _ (by kernel_rfl) .nil ?_
                          refine Wc.ret ?_
                          obtain rfl := Option.some.inj h35
                          obtain rfl := Option.some.inj h27
                          obtain rfl := Option.some.inj h
                          exact ⟨.inl rfl, by kernel_rfl, by kernel_rfl⟩
                        · refine Wc.condF h41 (by kernel_rfl) ?_
                          refine Wc.fix (st' := ⟨[(1, (.ptr 1 0, [])), (3, (.v (.int .i64 (e31_.gCells.length : Int)), [])), (4, (.v (.int .i64 b32_), [])), (5, (.ptr 5 0, [])), (7, (.v (.int .i64 b37_), []))], [(1, .cells [.sl (List.map GCell.c e31_.gCells), .sl (List.map cI.i64 e31_.gTrail)] []), (5, .cells [.int .i64 c33_.gKind, .str c33_.gName, .int .i64 c33_.gNum, .int .i64 c33_.gTo, .sl (List.map cI.i64 c33_.gKids)] [])], []⟩) [] [1, 3, 4, 5, 7] [1, 5] [] (by kernel_rfl) ?_
                          refine Wc.skip ?_
                          refine Wc.region [] [] [1, 3, 4, 5, 7] [1, 5] [] ⟨[(1, (.ptr 1 0, [])), (3, (.v (.int .i64 (e31_.gCells.length : Int)), [])), (4, (.v (.int .i64 b32_), [])), (5, (.ptr 5 0, [])), (7, (.v (.int .i64 (wr.i64 (b37_ + 1))), []))], [(1, .cells [.sl (List.map GCell.c e31_.gCells), .sl (List.map cI.i64 e31_.gTrail)] []), (5, .cells [.int .i64 c33_.gKind, .str c33_.gName, .int .i64 c33_.gNum, .int .i64 c33_.gTo, .sl (List.map cI.i64 c33_.gKids)] [])], []⟩ _ (by kernel_rfl) .nil ?_
                          exact ⟨_, Nat.lt_succ_self _, _, rfl, h35⟩
                      · refine Wc.draw hmix [{}, {}, {}, { v := some (.vptr [.int .i64 c38_.gKind, .str c38_.gName, .int .i64 c38_.gNum, .int .i64 c38_.gTo, .sl (List.map cI.i64 c38_.gKids)]) }, {}, {}, {}, { re := some (.bool false) }] [] [1, 3, 4, 5, 7, 90] [1, 5] [] ⟨[(1, (.ptr 1 0, [])), (3, (.v (.int .i64 (e31_.gCells.length : Int)), [])), (4, (.v (.int .i64 b32_), [])), (5, (.ptr 5 0, [])), (7, (.v (.int .i64 b37_), [])), (90, (.v (.bool false), []))], [(1, .cells [.sl (List.map GCell.c e31_.gCells), .sl (List.map cI.i64 e31_.gTrail)] []), (5, .cells [.int .i64 c33_.gKind, .str c33_.gName, .int .i64 c33_.gNum, .int .i64 c33_.gTo, .sl (List.map cI.i64 c33_.gKids)] [])], []⟩ _ (by kernel_rfl) (fun X => by kernel_rfl) (.cons (at_obl (c := GCell.c) (GCell.c_eq c38_) GCell.c_len h38) (.cons (len_ok 1 [.int .i64 c38_.gKind, .str c38_.gName, .int .i64 c38_.gNum, .int .i64 c38_.gTo, .sl (List.map cI.i64 c38_.gKids)]) (.cons (congrArg AV.bool h39) .nil))) ?_
                        refine Wc.condF rfl (by kernel_rfl) ?_
                        refine Wc.fix (st' := ⟨[(1, (.ptr 1 0, [])), (3, (.v (.int .i64 (e31_.gCells.length : Int)), [])), (4, (.v (.int .i64 b32_), [])), (5, (.ptr 5 0, [])), (7, (.v (.int .i64 b37_), []))], [(1, .cells [.sl (List.map GCell.c e31_.gCells), .sl (List.map cI.i64 e31_.gTrail)] []), (5, .cells [.int .i64 c33_.gKind, .str c33_.gName, .int .i64 c33_.gNum, .int .i64 c33_.gTo, .sl (List.map cI.i64 c33_.gKids)] [])], []⟩) [] [1, 3, 4, 5, 7] [1, 5] [] (by kernel_rfl) ?_
                        refine Wc.skip ?_
                        refine Wc.region [] [] [1, 3, 4, 5, 7] [1, 5] [] ⟨[(1, (.ptr 1 0, [])), (3, (.v (.int .i64 (e31_.gCells.length : Int)), [])), (4, (.v (.int .i64 b32_), [])), (5, (.ptr 5 0, [])), (7, (.v (.int .i64 (wr.i64 (b37_ + 1))), []))], [(1, .cells [.sl (List.map GCell.c e31_.gCells), .sl (List.map cI.i64 e31_.gTrail)] []), (5, .cells [.int .i64 c33_.gKind, .str c33_.gName, .int .i64 c33_.gNum, .int .i64 c33_.gTo, .sl (List.map cI.i64 c33_.gKids)] [])], []⟩ _ (by kernel_rfl) .nil ?_
                        exact ⟨_, Nat.lt_succ_self _, _, rfl, h35⟩
                    · refine Wc.condF h37 (by kernel_rfl) ?_
                      refine Wc.fix (st' := ⟨[(1, (.ptr 1 0, [])), (3, (.v (.int .i64 (e31_.gCells.length : Int)), [])), (4, (.v (.int .i64 b32_), []))], [(1, .cells [.sl (List.map GCell.c e31_.gCells), .sl (List.map cI.i64 e31_.gTrail)] [])], []⟩) [] [1, 3, 4] [1] [] (by kernel_rfl) ?_
                      refine Wc.exit ?_
                      obtain rfl := Option.some.inj h35
                      exact ⟨rfl, rfl⟩
                  · refine Wc.region [{}, {}, {}, { re := some (.bool false) }] [] [1, 3, 4, 5, 7, 70] [1, 5] [] ⟨[(1, (.ptr 1 0, [])), (3, (.v (.int .i64 (e31_.gCells.length : Int)), [])), (4, (.v (.int .i64 b32_), [])), (5, (.ptr 5 0, [])), (7, (.v (.int .i64 b37_), [])), (70, (.v (.bool false), []))], [(1, .cells [.sl (List.map GCell.c e31_.gCells), .sl (List.map cI.i64 e31_.gTrail)] []), (5, .cells [.int .i64 c33_.gKind, .str c33_.gName, .int .i64 c33_.gNum, .int .i64 c33_.gTo, .sl (List.map cI.i64 c33_.gKids)] [])], []⟩ _ (by kernel_rfl) (.cons (congrArg AV.bool h36) .nil) ?_
                    refine Wc.condF rfl (by kernel_rfl) ?_
                    refine Wc.fix (st' := ⟨[(1, (.ptr 1 0, [])), (3, (.v (.int .i64 (e31_.gCells.length : Int)), [])), (4, (.v (.int .i64 b32_), []))], [(1, .cells [.sl (List.map GCell.c e31_.gCells), .sl (List.map cI.i64 e31_.gTrail)] [])], []⟩) [] [1, 3, 4] [1] [] (by kernel_rfl) ?_
                    refine Wc.exit ?_
                    obtain rfl := Option.some.inj h35
                    exact ⟨rfl, rfl⟩
              · rintro st ⟨rfl, rfl⟩
                refine Wc.region [] [] [1, 3, 4] [1] [] ⟨[(1, (.ptr 1 0, [])), (3, (.v (.int .i64 (e31_.gCells.length : Int)), [])), (4, (.v (.int .i64 (wr.i64 (b32_ + 1))), []))], [(1, .cells [.sl (List.map GCell.c e31_.gCells), .sl (List.map cI.i64 e31_.gTrail)] [])], []⟩ _ (by kernel_rfl) .nil ?_
                exact ⟨_, Nat.lt_succ_self _, _, rfl, h27⟩
        · refine Wc.condF h28 (by kernel_rfl) ?_
          refine Wc.fix (st' := ⟨[(1, (.ptr 1 0, [])), (3, (.v (.int .i64 (e31_.gCells.length : Int)), []))], [(1, .cells [.sl (List.map GCell.c e31_.gCells), .sl (List.map cI.i64 e31_.gTrail)] [])], []⟩) [] [1, 3] [1] [] (by kernel_rfl) ?_
          refine Wc.exit ?_
          obtain rfl := Option.some.inj h27
          exact ⟨rfl, rfl⟩
    · rintro st ⟨rfl, rfl⟩
      refine Wc.seq ?_
      refine Wc.seq ?_
      refine Wc.region [] [] [1, 3, 8] [1] [] ⟨[(1, (.ptr 1 0, [])), (3, (.v (.int .i64 (e31_.gCells.length : Int)), [])), (8, (.v (.int .i64 0), []))], [(1, .cells [.sl (List.map GCell.c e31_.gCells), .sl (List.map cI.i64 e31_.gTrail)] [])], []⟩ _ (by kernel_rfl) .nil ?_
      obtain ⟨out5, h49, h⟩ := obind h
      refine Wc.lastJ (fun st => out5 = .done () ∧ st = ⟨[], [], []⟩) ?_ ?_
      · refine Wc.block ?_
        refine Wc.loop (fun m st => ∃ (b43_ : Int), st = ⟨[(1, (.ptr 1 0, [])), (3, (.v (.int .i64 (e31_.gCells.length : Int)), [])), (8, (.v (.int .i64 b43_), []))], [(1, .cells [.sl (List.map GCell.c e31_.gCells), .sl (List.map cI.i64 e31_.gTrail)] [])], []⟩ ∧ pspec_HeapOk_L5 k e31_ m b43_ = some out5) ?_ k ⟨_, rfl, h49⟩
        rintro m st ⟨b43_, rfl, h49⟩
        cases m with
        | zero => exact (onone h49).elim
        | succ m =>
          refine Wc.seq ?_
          refine Wc.seq ?_
          refine Wc.region [{}, {}, {}, { v := some (.int .i64 (e31_.gTrail.length : Int)) }] [] [1, 3, 8, 95] [1] [] ⟨[(1, (.ptr 1 0, [])), (3, (.v (.int .i64 (e31_.gCells.length : Int)), [])), (8, (.v (.int .i64 b43_), [])), (95, (.v (.bool (decide (b43_ < (e31_.gTrail.length : Int)))), []))], [(1, .cells [.sl (List.map GCell.c e31_.gCells), .sl (List.map cI.i64 e31_.gTrail)] [])], []⟩ _ (by kernel_rfl) (.cons (len_obl cI.i64 e31_.gTrail) .nil) ?_
          rcases oif h49 with ⟨h50, h49⟩ | ⟨h50, h49⟩
          · refine Wc.condT h50 (by kernel_rfl) ?_
            refine Wc.fix (st' := ⟨[(1, (.ptr 1 0, [])), (3, (.v (.int .i64 (e31_.gCells.length : Int)), [])), (8, (.v (.int .i64 b43_), []))], [(1, .cells [.sl (List.map GCell.c e31_.gCells), .sl (List.map cI.i64 e31_.gTrail)] [])], []⟩) [] [1, 3, 8] [1] [] (by kernel_rfl) ?_
            refine Wc.skip ?_
            refine Wc.seq ?_
            refine Wc.block ?_
            refine Wc.seq ?_
            obtain ⟨b44_, h51, h49⟩ := obind h49
            obtain ⟨f45_, h52, h49⟩ := obind h49
            rcases oif h49 with ⟨h53, h49⟩ | ⟨h53, h49⟩
            · refine Wc.draw hmix [{}, {}, {}, { v := some (.vptr [.int .i64 b44_]) }, {}, {}, {}, { r := some (.v (.bool f45_) []) }, {}, { re := some (.bool true) }] [] [1, 3, 8, 119] [1] [] ⟨[(1, (.ptr 1 0, [])), (3, (.v (.int .i64 (e31_.gCells.length : Int)), [])), (8, (.v (.int .i64 b43_), [])), (119, (.v (.bool true), []))], [(1, .cells [.sl (List.map GCell.c e31_.gCells), .sl (List.map cI.i64 e31_.gTrail)] [])], []⟩ _ (by kernel_rfl) (fun X => by kernel_rfl) (.cons (at_obl (c := cI.i64) rfl cI.i64_len h51) (.cons (len_ok 1 [.int .i64 b44_]) (.cons (cspec_l01In h52) (.cons (congrArg AV.bool h53) .nil)))) ?_
              refine Wc.condT rfl (by kernel_rfl) ?_
              refine Wc.seq ?_
              refine Wc.region [] [] [2] [] [] ⟨[(2, (.v (.bool false), []))], [], []⟩ _ (by kernel_rfl) .nil ?_
              refine Wc.ret ?_
              obtain rfl := Option.some.inj h49
              obtain rfl := Option.some.inj h
              exact ⟨.inl rfl, by kernel_rfl, by kernel_rfl⟩
            · obtain ⟨b46_, h54, h49⟩ := obind h49
              obtain ⟨c47_, h55, h49⟩ := obind h49
              refine Wc.draw hmix [{}, {}, {}, { v := some (.vptr [.int .i64 b44_]) }, {}, {}, {}, { r := some (.v (.bool f45_) []) }, {}, { re := some (.bool false) }, {}, {}, {}, {}, {}, { v := some (.vptr [.int .i64 b46_]) }, {}, { v := some (.vptr [.int .i64 c47_.gKind, .str c47_.gName, .int .i64 c47_.gNum, .int .i64 c47_.gTo, .sl (List.map cI.i64 c47_.gKids)]) }] [] [1, 3, 8, 119] [1] [] ⟨[(1, (.ptr 1 0, [])), (3, (.v (.int .i64 (e31_.gCells.length : Int)), [])), (8, (.v (.int .i64 b43_), [])), (119, (.v (.bool (c47_.gKind != 1)), []))], [(1, .cells [.sl (List.map GCell.c e31_.gCells), .sl (List.map cI.i64 e31_.gTrail)] [])], []⟩ _ (by kernel_rfl) (fun X => by kernel_rfl) (.cons (at_obl (c := cI.i64) rfl cI.i64_len h51) (.cons (len_ok 1 [.int .i64 b44_]) (.cons (cspec_l01In h52) (.cons (congrArg AV.bool h53) (.cons (at_obl (c := cI.i64) rfl cI.i64_len h54) (.cons (len_ok 1 [.int .i64 b46_]) (.cons (at_obl (c := GCell.c) (GCell.c_eq c47_) GCell.c_len h55) (.cons (len_ok 1 [.int .i64 c47_.gKind, .str c47_.gName, .int .i64 c47_.gNum, .int .i64 c47_.gTo, .sl (List.map cI.i64 c47_.gKids)]) .nil)))))))) ?_
              rcases oif h49 with ⟨h56, h49⟩ | ⟨h56, h49⟩
              · refine Wc.condT h56 (by kernel_rfl) ?_
                refine Wc.seq ?_
                refine Wc.region [] [] [2] [] [] ⟨[(2, (.v (.bool false), []))], [], []⟩ _ (by kernel_rfl) .nil ?_
                refine Wc.ret ?_
                obtain rfl := Option.some.inj h49
                obtain rfl := Option.some.inj h
                exact ⟨.inl rfl, by kernel_rfl, by kernel_rfl⟩
              · refine Wc.condF h56 (by kernel_rfl) ?_
                refine Wc.fix (st' := ⟨[(1, (.ptr 1 0, [])), (3, (.v (.int .i64 (e31_.gCells.length : Int)), [])), (8, (.v (.int .i64 b43_), []))], [(1, .cells [.sl (List.map GCell.c e31_.gCells), .sl (List.map cI.i64 e31_.gTrail)] [])], []⟩) [] [1, 3, 8] [1] [] (by kernel_rfl) ?_
                refine Wc.skip ?_
                refine Wc.region [] [] [1, 3, 8] [1] [] ⟨[(1, (.ptr 1 0, [])), (3, (.v (.int .i64 (e31_.gCells.length : Int)), [])), (8, (.v (.int .i64 (wr.i64 (b43_ + 1))), []))], [(1, .cells [.sl (List.map GCell.c e31_.gCells), .sl (List.map cI.i64 e31_.gTrail)] [])], []⟩ _ (by kernel_rfl) .nil ?_
                exact ⟨_, Nat.lt_succ_self _, _, rfl, h49⟩
          · refine Wc.condF h50 (by kernel_rfl) ?_
            refine Wc.fix (st' := ⟨[], [], []⟩) [] [] [] [] (by kernel_rfl) ?_
            refine Wc.exit ?_
            obtain rfl := Option.some.inj h49
            exact ⟨rfl, rfl⟩
      · rintro st ⟨rfl, rfl⟩
        refine Wc.seq ?_
        refine Wc.region [] [] [2] [] [] ⟨[(2, (.v (.bool true), []))], [], []⟩ _ (by kernel_rfl) .nil ?_
        refine Wc.ret ?_
        obtain rfl := Option.some.inj h
        exact ⟨.inl rfl, by kernel_rfl, by kernel_rfl⟩

def plaws_toIntS_L1 (k : Nat) (a48_ : List Int) : Nat → (List Int) → Int → Option (Out (List Int) (List Int))
  | 0, _, _ => none
  | m + 1, a49_, b50_ =>
    if (decide (b50_ < (a48_.length : Int))) = true then
      (at' a48_ b50_).bind fun b52_ =>
      (at' a49_ b50_).bind fun b53_ =>
      plaws_toIntS_L1 k a48_ m (a49_.set ((b50_).toNat) b52_) (wr.i64 (b50_ + 1))
    else
      some (.done a49_)
/-- laws.toIntS -/
def plaws_toIntS (k : Nat) (a48_ : List Int) : Option (List Int) :=
  if 0 ≤ (a48_.length : Int) ∧ (a48_.length : Int) ≤ 1073741824 then
    (plaws_toIntS_L1 k a48_ k (List.replicate ((a48_.length : Int)).toNat 0) 0).bind fun out1 => match out1 with
    | .ret r => some r
    | .done a51_ =>
      some a51_
  else none
theorem claws_toIntS {k : Nat} {a48_ : List Int} {r : (List Int)} (h : plaws_toIntS k a48_ = some r) : FnO Try.prog 49 [.v (.sl (List.map cI.i64 a48_)) []] (.v (.sl (List.map cI.i64 r)) []) [] := by
  refine FnO.of Try.func49 (rfl : Try.f49.body = some _) (Nat.le_of_ble_eq_true (by kernel_rfl)) (Nat.le_of_ble_eq_true (by kernel_rfl)) ?_
  intro w0 X0 Fin pv0 pb
  unfold plaws_toIntS at h
  refine Wc.seq ?_
  refine Wc.region [] [] [0] [] [] ⟨[(0, (.v (.sl (List.map cI.i64 a48_)), []))], [], []⟩ _ (by kernel_rfl) .nil ?_
  refine Wc.seq ?_
  obtain ⟨h57, h⟩ := oguard h
  refine Wc.region [{}, { v := some (.int .i64 (a48_.length : Int)) }, { c := some (List.map cI.i64 (List.replicate ((a48_.length : Int)).toNat 0)) }, { tk := [7] }] [] [0, 3] [] [] ⟨[(0, (.v (.sl (List.map cI.i64 a48_)), [])), (3, (.v (.slx), [(0, .ex 3 true (List.map cI.i64 (List.replicate ((a48_.length : Int)).toNat 0)))]))], [], []⟩ _ (by kernel_rfl) (.cons (len_obl cI.i64 a48_) (.cons (rep_re (c := cI.i64) (z := 0) rfl ((a48_.length : Int)).toNat) (.cons (ms_obl h57) .nil))) ?_
  refine Wc.seq ?_
  refine Wc.seq ?_
  refine Wc.region [] [] [0, 3, 4] [] [] ⟨[(0, (.v (.sl (List.map cI.i64 a48_)), [])), (3, (.v (.slx), [(0, .ex 3 true (List.map cI.i64 (List.replicate ((a48_.length : Int)).toNat 0)))])), (4, (.v (.int .i64 0), []))], [], []⟩ _ (by kernel_rfl) .nil ?_
  obtain ⟨out1, h58, h⟩ := obind h
  refine Wc.lastJ (fun st => ∃ (a51_ : List Int), out1 = .done a51_ ∧ st = ⟨[(3, (.v (.slx), [(0, .ex 3 true (List.map cI.i64 a51_))]))], [], []⟩) ?_ ?_
  · refine Wc.block ?_
    refine Wc.loop (fun m st => ∃ (a49_ : List Int) (b50_ : Int), st = ⟨[(0, (.v (.sl (List.map cI.i64 a48_)), [])), (3, (.v (.slx), [(0, .ex 3 true (List.map cI.i64 a49_))])), (4, (.v (.int .i64 b50_), []))], [], []⟩ ∧ plaws_toIntS_L1 k a48_ m a49_ b50_ = some out1) ?_ k ⟨_, _, rfl, h58⟩
    rintro m st ⟨a49_, b50_, rfl, h58⟩
    cases m with
    | zero => exact (onone h58).elim
    | succ m =>
      refine Wc.seq ?_
      refine Wc.seq ?_
      refine Wc.region [{}, {}, { v := some (.int .i64 (a48_.length : Int)) }] [] [0, 3, 4, 11] [] [] ⟨[(0, (.v (.sl (List.map cI.i64 a48_)), [])), (3, (.v (.slx), [(0, .ex 3 true (List.map cI.i64 a49_))])), (4, (.v (.int .i64 b50_), [])), (11, (.v (.bool (decide (b50_ < (a48_.length : Int)))), []))], [], []⟩ _ (by kernel_rfl) (.cons (len_obl cI.i64 a48_) .nil) ?_
      rcases oif h58 with ⟨h59, h58⟩ | ⟨h59, h58⟩
      · refine Wc.condT h59 (by kernel_rfl) ?_
        refine Wc.fix (st' := ⟨[(0, (.v (.sl (List.map cI.i64 a48_)), [])), (3, (.v (.slx), [(0, .ex 3 true (List.map cI.i64 a49_))])), (4, (.v (.int .i64 b50_), []))], [], []⟩) [] [0, 3, 4] [] [] (by kernel_rfl) ?_
        refine Wc.skip ?_
        refine Wc.seq ?_
        refine Wc.block ?_
        obtain ⟨b52_, h60, h58⟩ := obind h58
        obtain ⟨b53_, h61, h58⟩ := obind h58
        refine Wc.region [{}, {}, {}, {}, { v := some (.vptr [.int .i64 b52_]) }, {}, {}, { c := some (List.map cI.i64 (a49_.set ((b50_).toNat) b52_)) }] [] [0, 3, 4] [] [] ⟨[(0, (.v (.sl (List.map cI.i64 a48_)), [])), (3, (.v (.slx), [(0, .ex 3 true (List.map cI.i64 (a49_.set ((b50_).toNat) b52_)))])), (4, (.v (.int .i64 b50_), []))], [], []⟩ _ (by kernel_rfl) (.cons (at_obl (c := cI.i64) rfl cI.i64_len h60) (.cons (len_ok 1 [.int .i64 b52_]) (.cons (ix_obl (c := cI.i64) cI.i64_len h61) (.cons (mod_obl (off := 0) (new := [.int .i64 b52_]) (c := cI.i64) rfl rfl (at'_spec h61).2 rfl) (.cons (st_obl (sz := 1) (off := 0) (s := 1) (c := cI.i64) rfl (at'_spec h61).2 rfl (Nat.le_of_ble_eq_true rfl)) .nil))))) ?_
        refine Wc.region [] [] [0, 3, 4] [] [] ⟨[(0, (.v (.sl (List.map cI.i64 a48_)), [])), (3, (.v (.slx), [(0, .ex 3 true (List.map cI.i64 (a49_.set ((b50_).toNat) b52_)))])), (4, (.v (.int .i64 (wr.i64 (b50_ + 1))), []))], [], []⟩ _ (by kernel_rfl) .nil ?_
        exact ⟨_, Nat.lt_succ_self _, _, _, rfl, h58⟩
      · refine Wc.condF h59 (by kernel_rfl) ?_
        refine Wc.fix (st' := ⟨[(3, (.v (.slx), [(0, .ex 3 true (List.map cI.i64 a49_))]))], [], []⟩) [] [3] [] [] (by kernel_rfl) ?_
        refine Wc.exit ?_
        obtain rfl := Option.some.inj h58
        exact ⟨_, rfl, rfl⟩
  · rintro st ⟨a51_, rfl, rfl⟩
    refine Wc.seq ?_
    refine Wc.region [{ tk := [3] }, { tk := [21] }] [] [2] [] [] ⟨[(2, (.v (.slx), [(0, .ex 3 true (List.map cI.i64 a51_))]))], [], []⟩ _ (by kernel_rfl) .nil ?_
    refine Wc.fix (st' := ⟨[(2, (.v (.sl (List.map cI.i64 a51_)), []))], [], []⟩) [.sh (.t 2 0)] [2] [] [] (by kernel_rfl) ?_
    refine Wc.ret ?_
    obtain rfl := Option.some.inj h
    exact ⟨.inl rfl, by kernel_rfl, by kernel_rfl⟩

/-- laws.toCell -/
def plaws_toCell (k : Nat) (c54_ : GCell) : Option GCell :=
  (plaws_toIntS k c54_.gKids).bind fun g55_ =>
  some (GCell.mk c54_.gKind c54_.gName c54_.gNum c54_.gTo g55_)
theorem claws_toCell {k : Nat} {c54_ : GCell} {r : GCell} (h : plaws_toCell k c54_ = some r) : FnO Try.prog 86 [.v (.agg [.int .i64 c54_.gKind, .str c54_.gName, .int .i64 c54_.gNum, .int .i64 c54_.gTo, .sl (List.map cI.i64 c54_.gKids)]) []] (.v (.agg [.int .i64 r.gKind, .str r.gName, .int .i64 r.gNum, .int .i64 r.gTo, .sl (List.map cI.i64 r.gKids)]) []) [] := by
  refine FnO.of Try.func86 (rfl : Try.f86.body = some _) (Nat.le_of_ble_eq_true (by kernel_rfl)) (Nat.le_of_ble_eq_true (by kernel_rfl)) ?_
  intro w0 X0 Fin pv0 pb
  unfold plaws_toCell at h
  refine Wc.seq ?_
  refine Wc.region [] [] [1, 2] [1, 2] [] ⟨[(1, (.ptr 1 0, [])), (2, (.ptr 2 0, []))], [(1, .cells [.int .i64 c54_.gKind, .str c54_.gName, .int .i64 c54_.gNum, .int .i64 c54_.gTo, .sl (List.map cI.i64 c54_.gKids)] []), (2, .cells [.int .i64 0, .str (bs []), .int .i64 0, .int .i64 0, .sl (List.map cI.i64 [])] [(4, .app 3)])], []⟩ _ (by kernel_rfl) .nil ?_
  refine Wc.seq ?_
  refine Wc.region [] [] [1, 2, 3] [1, 2, 3] [] ⟨[(1, (.ptr 1 0, [])), (2, (.ptr 2 0, [])), (3, (.ptr 3 0, []))], [(1, .cells [.int .i64 c54_.gKind, .str c54_.gName, .int .i64 c54_.gNum, .int .i64 c54_.gTo, .sl (List.map cI.i64 c54_.gKids)] []), (2, .cells [.int .i64 0, .str (bs []), .int .i64 0, .int .i64 0, .sl (List.map cI.i64 [])] [(4, .app 3)]), (3, .cells [.int .i64 0, .str (bs []), .int .i64 0, .int .i64 0, .sl (List.map cI.i64 [])] [(4, .app 3)])], []⟩ _ (by kernel_rfl) .nil ?_
  refine Wc.seq ?_
  refine Wc.region [] [] [1, 2, 3] [1, 2, 3] [] ⟨[(1, (.ptr 1 0, [])), (2, (.ptr 2 0, [])), (3, (.ptr 3 0, []))], [(1, .cells [.int .i64 c54_.gKind, .str c54_.gName, .int .i64 c54_.gNum, .int .i64 c54_.gTo, .sl (List.map cI.i64 c54_.gKids)] []), (2, .cells [.int .i64 0, .str (bs []), .int .i64 0, .int .i64 0, .sl (List.map cI.i64 [])] [(4, .app 3)]), (3, .cells [.int .i64 c54_.gKind, .str (bs []), .int .i64 0, .int .i64 0, .sl (List.map cI.i64 [])] [(4, .app 3)])], []⟩ _ (by kernel_rfl) .nil ?_
  refine Wc.seq ?_
  refine Wc.region [] [] [1, 2, 3] [1, 2, 3] [] ⟨[(1, (.ptr 1 0, [])), (2, (.ptr 2 0, [])), (3, (.ptr 3 0, []))], [(1, .cells [.int .i64 c54_.gKind, .str c54_.gName, .int .i64 c54_.gNum, .int .i64 c54_.gTo, .sl (List.map cI.i64 c54_.gKids)] []), (2, .cells [.int .i64 0, .str (bs []), .int .i64 0, .int .i64 0, .sl (List.map cI.i64 [])] [(4, .app 3)]), (3, .cells [.int .i64 c54_.gKind, .str c54_.gName, .int .i64 0, .int .i64 0, .sl (List.map cI.i64 [])] [(4, .app 3)])], []⟩ _ (by kernel_rfl) .nil ?_
  refine Wc.seq ?_
  refine Wc.region [] [] [1, 2, 3] [1, 2, 3] [] ⟨[(1, (.ptr 1 0, [])), (2, (.ptr 2 0, [])), (3, (.ptr 3 0, []))], [(1, .cells [.int .i64 c54_.gKind, .str c54_.gName, .int .i64 c54_.gNum, .int .i64 c54_.gTo, .sl (List.map cI.i64 c54_.gKids)] []), (2, .cells [.int .i64 0, .str (bs []), .int .i64 0, .int .i64 0, .sl (List.map cI.i64 [])] [(4, .app 3)]), (3, .cells [.int .i64 c54_.gKind, .str c54_.gName, .int .i64 c54_.gNum, .int .i64 0, .sl (List.map cI.i64 [])] [(4, .app 3)])], []⟩ _ (by kernel_rfl) .nil ?_
  refine Wc.seq ?_
  refine Wc.region [] [] [1, 2, 3] [1, 2, 3] [] ⟨[(1, (.ptr 1 0, [])), (2, (.ptr 2 0, [])), (3, (.ptr 3 0, []))], [(1, .cells [.int .i64 c54_.gKind, .str c54_.gName, .int .i64 c54_.gNum, .int .i64 c54_.gTo, .sl (List.map cI.i64 c54_.gKids)] []), (2, .cells [.int .i64 0, .str (bs []), .int .i64 0, .int .i64 0, .sl (List.map cI.i64 [])] [(4, .app 3)]), (3, .cells [.int .i64 c54_.gKind, .str c54_.gName, .int .i64 c54_.gNum, .int .i64 c54_.gTo, .sl (List.map cI.i64 [])] [(4, .app 3)])], []⟩ _ (by kernel_rfl) .nil ?_
  refine Wc.seq ?_
  obtain ⟨g55_, h62, h⟩ := obind h
  refine Wc.region [{}, {}, { r := some (.v (.sl (List.map cI.i64 g55_)) []) }] [] [2, 3] [2, 3] [] ⟨[(2, (.ptr 2 0, [])), (3, (.ptr 3 0, []))], [(2, .cells [.int .i64 0, .str (bs []), .int .i64 0, .int .i64 0, .sl (List.map cI.i64 [])] [(4, .app 3)]), (3, .cells [.int .i64 c54_.gKind, .str c54_.gName, .int .i64 c54_.gNum, .int .i64 c54_.gTo, .sl (List.map cI.i64 g55_)] [])], []⟩ _ (by kernel_rfl) (.cons (claws_toIntS h62) .nil) ?_
  refine Wc.seq ?_
  refine Wc.region [] [] [2] [2] [] ⟨[(2, (.ptr 2 0, []))], [(2, .cells [.int .i64 c54_.gKind, .str c54_.gName, .int .i64 c54_.gNum, .int .i64 c54_.gTo, .sl (List.map cI.i64 g55_)] [])], []⟩ _ (by kernel_rfl) .nil ?_
  refine Wc.ret ?_
  obtain rfl := Option.some.inj h
  exact ⟨.inl rfl, by kernel_rfl, by kernel_rfl⟩

def plaws_toCellS_L1 (k : Nat) (d56_ : List GCell) : Nat → (List GCell) → Int → Option (Out (List GCell) (List GCell))
  | 0, _, _ => none
  | m + 1, d57_, b58_ =>
    if (decide (b58_ < (d56_.length : Int))) = true then
      (at' d56_ b58_).bind fun c60_ =>
      (plaws_toCell k c60_).bind fun c61_ =>
      (at' d57_ b58_).bind fun c62_ =>
      plaws_toCellS_L1 k d56_ m (d57_.set ((b58_).toNat) c61_) (wr.i64 (b58_ + 1))
    else
      some (.done d57_)
/-- laws.toCellS -/
def plaws_toCellS (k : Nat) (d56_ : List GCell) : Option (List GCell) :=
  if 0 ≤ (d56_.length : Int) ∧ (d56_.length : Int) ≤ 1073741824 then
    (plaws_toCellS_L1 k d56_ k (List.replicate ((d56_.length : Int)).toNat (GCell.mk 0 (bs []) 0 0 [])) 0).bind fun out1 => match out1 with
    | .ret r => some r
    | .done d59_ =>
      some d59_
  else none
theorem claws_toCellS {k : Nat} {d56_ : List GCell} {r : (List GCell)} (h : plaws_toCellS k d56_ = some r) : FnO Try.prog 48 [.v (.sl (List.map GCell.c d56_)) []] (.v (.sl (List.map GCell.c r)) []) [] := by
  refine FnO.of Try.func48 (rfl : Try.f48.body = some _) (Nat.le_of_ble_eq_true (by kernel_rfl)) (Nat.le_of_ble_eq_true (by kernel_rfl)) ?_
  intro w0 X0 Fin pv0 pb
  unfold plaws_toCellS at h
  refine Wc.seq ?_
  refine Wc.region [] [] [0] [] [] ⟨[(0, (.v (.sl (List.map GCell.c d56_)), []))], [], []⟩ _ (by kernel_rfl) .nil ?_
  refine Wc.seq ?_
  obtain ⟨h63, h⟩ := oguard h
  refine Wc.region [{}, { v := some (.int .i64 (d56_.length : Int)) }, { c := some (List.map GCell.c (List.replicate ((d56_.length : Int)).toNat (GCell.mk 0 (bs []) 0 0 []))) }, { tk := [7], fx := [.ag (.t 7 0)] }] [] [0, 3] [] [] ⟨[(0, (.v (.sl (List.map GCell.c d56_)), [])), (3, (.v (.slx), [(0, .ex 94 false (List.map GCell.c (List.replicate ((d56_.length : Int)).toNat (GCell.mk 0 (bs []) 0 0 []))))]))], [], []⟩ _ (by kernel_rfl) (.cons (len_obl GCell.c d56_) (.cons (rep_re (c := GCell.c) (z := (GCell.mk 0 (bs []) 0 0 [])) (GCell.c_eq (GCell.mk 0 (bs []) 0 0 [])) ((d56_.length : Int)).toNat) (.cons (ms_obl h63) .nil))) ?_
  refine Wc.seq ?_
  refine Wc.seq ?_
  refine Wc.region [] [] [0, 3, 4] [] [] ⟨[(0, (.v (.sl (List.map GCell.c d56_)), [])), (3, (.v (.slx), [(0, .ex 94 false (List.map GCell.c (List.replicate ((d56_.length : Int)).toNat (GCell.mk 0 (bs []) 0 0 []))))])), (4, (.v (.int .i64 0), []))], [], []⟩ _ (by kernel_rfl) .nil ?_
  obtain ⟨out1, h64, h⟩ := obind h
  refine Wc.lastJ (fun st => ∃ (d59_ : List GCell), out1 = .done d59_ ∧ st = ⟨[(3, (.v (.slx), [(0, .ex 94 false (List.map GCell.c d59_))]))], [], []⟩) ?_ ?_
  · refine Wc.block ?_
    refine Wc.loop (fun m st => ∃ (d57_ : List GCell) (b58_ : Int), st = ⟨[(0, (.v (.sl (List.map GCell.c d56_)), [])), (3, (.v (.slx), [(0, .ex 94 false (List.map GCell.c d57_))])), (4, (.v (.int .i64 b58_), []))], [], []⟩ ∧ plaws_toCellS_L1 k d56_ m d57_ b58_ = some out1) ?_ k ⟨_, _, rfl, h64⟩
    rintro m st ⟨d57_, b58_, rfl, h64⟩
    cases m with
    | zero => exact (onone h64).elim
    | succ m =>
      refine Wc.seq ?_
      refine Wc.seq ?_
      refine Wc.region [{}, {}, { v := some (.int .i64 (d56_.length : Int)) }] [] [0, 3, 4, 11] [] [] ⟨[(0, (.v (.sl (List.map GCell.c d56_)), [])), (3, (.v (.slx), [(0, .ex 94 false (List.map GCell.c d57_))])), (4, (.v (.int .i64 b58_), [])), (11, (.v (.bool (decide (b58_ < (d56_.length : Int)))), []))], [], []⟩ _ (by kernel_rfl) (.cons (len_obl GCell.c d56_) .nil) ?_
      rcases oif h64 with ⟨h65, h64⟩ | ⟨h65, h64⟩
      · refine Wc.condT h65 (by kernel_rfl) ?_
        refine Wc.fix (st' := ⟨[(0, (.v (.sl (List.map GCell.c d56_)), [])), (3, (.v (.slx), [(0, .ex 94 false (List.map GCell.c d57_))])), (4, (.v (.int .i64 b58_), []))], [], []⟩) [] [0, 3, 4] [] [] (by kernel_rfl) ?_
        refine Wc.skip ?_
        refine Wc.seq ?_
        refine Wc.block ?_
        obtain ⟨c60_, h66, h64⟩ := obind h64
        obtain ⟨c61_, h67, h64⟩ := obind h64
        obtain ⟨c62_, h68, h64⟩ := obind h64
        refine Wc.region [{}, {}, {}, {}, { v := some (.vptr [.int .i64 c60_.gKind, .str c60_.gName, .int .i64 c60_.gNum, .int .i64 c60_.gTo, .sl (List.map cI.i64 c60_.gKids)]) }, {}, { r := some (.v (.agg [.int .i64 c61_.gKind, .str c61_.gName, .int .i64 c61_.gNum, .int .i64 c61_.gTo, .sl (List.map cI.i64 c61_.gKids)]) []) }, {}, { c := some (List.map GCell.c (d57_.set ((b58_).toNat) c61_)) }] [] [0, 3, 4] [] [] ⟨[(0, (.v (.sl (List.map GCell.c d56_)), [])), (3, (.v (.slx), [(0, .ex 94 false (List.map GCell.c (d57_.set ((b58_).toNat) c61_)))])), (4, (.v (.int .i64 b58_), []))], [], []⟩ _ (by kernel_rfl) (.cons (at_obl (c := GCell.c) (GCell.c_eq c60_) GCell.c_len h66) (.cons (len_ok 5 [.int .i64 c60_.gKind, .str c60_.gName, .int .i64 c60_.gNum, .int .i64 c60_.gTo, .sl (List.map cI.i64 c60_.gKids)]) (.cons (claws_toCell h67) (.cons (ix_obl (c := GCell.c) GCell.c_len h68) (.cons (mod_obl (off := 0) (new := [.int .i64 c61_.gKind, .str c61_.gName, .int .i64 c61_.gNum, .int .i64 c61_.gTo, .sl (List.map cI.i64 c61_.gKids)]) (c := GCell.c) (GCell.c_eq c62_) (GCell.c_eq c61_) (at'_spec h68).2 rfl) (.cons (st_obl (sz := 5) (off := 0) (s := 5) (c := GCell.c) (GCell.c_eq c62_) (at'_spec h68).2 rfl (Nat.le_of_ble_eq_true rfl)) .nil)))))) ?_
        refine Wc.region [] [] [0, 3, 4] [] [] ⟨[(0, (.v (.sl (List.map GCell.c d56_)), [])), (3, (.v (.slx), [(0, .ex 94 false (List.map GCell.c (d57_.set ((b58_).toNat) c61_)))])), (4, (.v (.int .i64 (wr.i64 (b58_ + 1))), []))], [], []⟩ _ (by kernel_rfl) .nil ?_
        exact ⟨_, Nat.lt_succ_self _, _, _, rfl, h64⟩
      · refine Wc.condF h65 (by kernel_rfl) ?_
        refine Wc.fix (st' := ⟨[(3, (.v (.slx), [(0, .ex 94 false (List.map GCell.c d57_))]))], [], []⟩) [] [3] [] [] (by kernel_rfl) ?_
        refine Wc.exit ?_
        obtain rfl := Option.some.inj h64
        exact ⟨_, rfl, rfl⟩
  · rintro st ⟨d59_, rfl, rfl⟩
    refine Wc.seq ?_
    refine Wc.region [{ tk := [3] }, { tk := [22] }] [] [2] [] [] ⟨[(2, (.v (.slx), [(0, .ex 94 false (List.map GCell.c d59_))]))], [], []⟩ _ (by kernel_rfl) .nil ?_
    refine Wc.fix (st' := ⟨[(2, (.v (.sl (List.map GCell.c d59_)), []))], [], []⟩) [.sh (.t 2 0)] [2] [] [] (by kernel_rfl) ?_
    refine Wc.ret ?_
    obtain rfl := Option.some.inj h
    exact ⟨.inl rfl, by kernel_rfl, by kernel_rfl⟩

/-- laws.toHeap -/
def plaws_toHeap (k : Nat) (e63_ : GHeap) : Option GHeap :=
  (plaws_toCellS k e63_.gCells).bind fun i64_ =>
  (plaws_toIntS k e63_.gTrail).bind fun g65_ =>
  some (GHeap.mk i64_ g65_)
theorem claws_toHeap {k : Nat} {e63_ : GHeap} {r : GHeap} (h : plaws_toHeap k e63_ = some r) : FnO Try.prog 11 [.v (.agg [.sl (List.map GCell.c e63_.gCells), .sl (List.map cI.i64 e63_.gTrail)]) []] (.v (.agg [.sl (List.map GCell.c r.gCells), .sl (List.map cI.i64 r.gTrail)]) []) [] := by
  refine FnO.of Try.func11 (rfl : Try.f11.body = some _) (Nat.le_of_ble_eq_true (by kernel_rfl)) (Nat.le_of_ble_eq_true (by kernel_rfl)) ?_
  intro w0 X0 Fin pv0 pb
  unfold plaws_toHeap at h
  refine Wc.seq ?_
  refine Wc.region [] [] [1, 2] [1, 2] [] ⟨[(1, (.ptr 1 0, [])), (2, (.ptr 2 0, []))], [(1, .cells [.sl (List.map GCell.c e63_.gCells), .sl (List.map cI.i64 e63_.gTrail)] []), (2, .cells [.sl (List.map GCell.c []), .sl (List.map cI.i64 [])] [(0, .app 94), (1, .app 3)])], []⟩ _ (by kernel_rfl) .nil ?_
  refine Wc.seq ?_
  refine Wc.region [] [] [1, 2, 3] [1, 2, 3] [] ⟨[(1, (.ptr 1 0, [])), (2, (.ptr 2 0, [])), (3, (.ptr 3 0, []))], [(1, .cells [.sl (List.map GCell.c e63_.gCells), .sl (List.map cI.i64 e63_.gTrail)] []), (2, .cells [.sl (List.map GCell.c []), .sl (List.map cI.i64 [])] [(0, .app 94), (1, .app 3)]), (3, .cells [.sl (List.map GCell.c []), .sl (List.map cI.i64 [])] [(0, .app 94), (1, .app 3)])], []⟩ _ (by kernel_rfl) .nil ?_
  refine Wc.seq ?_
  obtain ⟨i64_, h69, h⟩ := obind h
  refine Wc.region [{}, {}, { r := some (.v (.sl (List.map GCell.c i64_)) []) }] [] [1, 2, 3] [1, 2, 3] [] ⟨[(1, (.ptr 1 0, [])), (2, (.ptr 2 0, [])), (3, (.ptr 3 0, []))], [(1, .cells [.sl (List.map GCell.c e63_.gCells), .sl (List.map cI.i64 e63_.gTrail)] []), (2, .cells [.sl (List.map GCell.c []), .sl (List.map cI.i64 [])] [(0, .app 94), (1, .app 3)]), (3, .cells [.sl (List.map GCell.c i64_), .sl (List.map cI.i64 [])] [(1, .app 3)])], []⟩ _ (by kernel_rfl) (.cons (claws_toCellS h69) .nil) ?_
  refine Wc.seq ?_
  obtain ⟨g65_, h70, h⟩ := obind h
  refine Wc.region [{}, {}, { r := some (.v (.sl (List.map cI.i64 g65_)) []) }] [] [2, 3] [2, 3] [] ⟨[(2, (.ptr 2 0, [])), (3, (.ptr 3 0, []))], [(2, .cells [.sl (List.map GCell.c []), .sl (List.map cI.i64 [])] [(0, .app 94), (1, .app 3)]), (3, .cells [.sl (List.map GCell.c i64_), .sl (List.map cI.i64 g65_)] [])], []⟩ _ (by kernel_rfl) (.cons (claws_toIntS h70) .nil) ?_
  refine Wc.seq ?_
  refine Wc.region [] [] [2] [2] [] ⟨[(2, (.ptr 2 0, []))], [(2, .cells [.sl (List.map GCell.c i64_), .sl (List.map cI.i64 g65_)] [])], []⟩ _ (by kernel_rfl) .nil ?_
  refine Wc.ret ?_
  obtain rfl := Option.some.inj h
  exact ⟨.inl rfl, by kernel_rfl, by kernel_rfl⟩

/-- impl.within -/
def pimpl_within (k : Nat) (b66_ : Int) (b67_ : Int) (b68_ : Int) : Option Bool :=
  if (decide (b66_ ≥ b67_)) = true then
    some (decide (b66_ ≤ b68_))
  else
    some false
theorem cimpl_within {k : Nat} {b66_ : Int} {b67_ : Int} {b68_ : Int} {r : Bool} (h : pimpl_within k b66_ b67_ b68_ = some r) : FnO Try.prog 50 [.v (.int .i64 b66_) [], .v (.int .i64 b67_) [], .v (.int .i64 b68_) []] (.v (.bool r) []) [] := by
  refine FnO.of Try.func50 (rfl : Try.f50.body = some _) (Nat.le_of_ble_eq_true (by kernel_rfl)) (Nat.le_of_ble_eq_true (by kernel_rfl)) ?_
  intro w0 X0 Fin pv0 pb
  unfold pimpl_within at h
  refine Wc.seq ?_
  refine Wc.region [] [] [0, 1, 2] [] [] ⟨[(0, (.v (.int .i64 b66_), [])), (1, (.v (.int .i64 b67_), [])), (2, (.v (.int .i64 b68_), []))], [], []⟩ _ (by kernel_rfl) .nil ?_
  refine Wc.seq ?_
  rcases oif h with ⟨h71, h⟩ | ⟨h71, h⟩
  · refine Wc.region [{}, {}, {}, { re := some (.bool true) }] [] [6] [] [] ⟨[(6, (.v (.bool (decide (b66_ ≤ b68_))), []))], [], []⟩ _ (by kernel_rfl) (.cons (congrArg AV.bool h71) .nil) ?_
    refine Wc.ret ?_
    obtain rfl := Option.some.inj h
    exact ⟨.inl rfl, by kernel_rfl, by kernel_rfl⟩
  · refine Wc.region [{}, {}, {}, { re := some (.bool false) }] [] [6] [] [] ⟨[(6, (.v (.bool false), []))], [], []⟩ _ (by kernel_rfl) (.cons (congrArg AV.bool h71) .nil) ?_
    refine Wc.ret ?_
    obtain rfl := Option.some.inj h
    exact ⟨.inl rfl, by kernel_rfl, by kernel_rfl⟩

/-- impl.isCell -/
def pimpl_isCell (k : Nat) (e69_ : GHeap) (b70_ : Int) : Option Bool :=
  (pimpl_within k b70_ 0 (wr.i64 ((e69_.gCells.length : Int) - 1))).bind fun f71_ =>
  some f71_
theorem cimpl_isCell {k : Nat} {e69_ : GHeap} {b70_ : Int} {r : Bool} (h : pimpl_isCell k e69_ b70_ = some r) : FnO Try.prog 51 [.v (.agg [.sl (List.map GCell.c e69_.gCells), .sl (List.map cI.i64 e69_.gTrail)]) [], .v (.int .i64 b70_) []] (.v (.bool r) []) [] := by
  refine FnO.of Try.func51 (rfl : Try.f51.body = some _) (Nat.le_of_ble_eq_true (by kernel_rfl)) (Nat.le_of_ble_eq_true (by kernel_rfl)) ?_
  intro w0 X0 Fin pv0 pb
  unfold pimpl_isCell at h
  refine Wc.seq ?_
  refine Wc.region [] [] [1, 2] [2] [] ⟨[(1, (.v (.int .i64 b70_), [])), (2, (.ptr 2 0, []))], [(2, .cells [.sl (List.map GCell.c e69_.gCells), .sl (List.map cI.i64 e69_.gTrail)] [])], []⟩ _ (by kernel_rfl) .nil ?_
  refine Wc.seq ?_
  obtain ⟨f71_, h72, h⟩ := obind h
  refine Wc.region [{}, {}, {}, { v := some (.int .i64 (e69_.gCells.length : Int)) }, {}, { r := some (.v (.bool f71_) []) }] [] [4] [] [] ⟨[(4, (.v (.bool f71_), []))], [], []⟩ _ (by kernel_rfl) (.cons (len_obl GCell.c e69_.gCells) (.cons (cimpl_within h72) .nil)) ?_
  refine Wc.ret ?_
  obtain rfl := Option.some.inj h
  exact ⟨.inl rfl, by kernel_rfl, by kernel_rfl⟩

def pimpl_follow_L1 (k : Nat) (e72_ : GHeap) : Nat → Int → Int → Option (Out Int Unit)
  | 0, _, _ => none
  | m + 1, b74_, b75_ =>
    if (decide (b75_ < (wr.i64 ((e72_.gCells.length : Int) + 1)))) = true then
      (pimpl_isCell k e72_ b74_).bind fun f76_ =>
      if (!f76_) = true then
        some (.ret (-1))
      else
        (at' e72_.gCells b74_).bind fun c77_ =>
        if (c77_.gKind != 1) = true then
          some (.ret b74_)
        else
          if (decide (c77_.gTo < 0)) = true then
            some (.ret b74_)
          else
            (at' e72_.gCells b74_).bind fun c78_ =>
            pimpl_follow_L1 k e72_ m c78_.gTo (wr.i64 (b75_ + 1))
    else
      some (.done ())
/-- impl.follow -/
def pimpl_follow (k : Nat) (e72_ : GHeap) (b73_ : Int) : Option Int :=
  (pimpl_follow_L1 k e72_ k b73_ 0).bind fun out1 => match out1 with
  | .ret r => some r
  | .done () =>
    some (-1)
theorem cimpl_follow {k : Nat} {e72_ : GHeap} {b73_ : Int} {r : Int} (h : pimpl_follow k e72_ b73_ = some r) : FnO Try.prog 52 [.v (.agg [.sl (List.map GCell.c e72_.gCells), .sl (List.map cI.i64 e72_.gTrail)]) [], .v (.int .i64 b73_) []] (.v (.int .i64 r) []) [] := by
  refine FnO.of Try.func52 (rfl : Try.f52.body = some _) (Nat.le_of_ble_eq_true (by kernel_rfl)) (Nat.le_of_ble_eq_true (by kernel_rfl)) ?_
  intro w0 X0 Fin pv0 pb
  unfold pimpl_follow at h
  refine Wc.seq ?_
  refine Wc.region [] [] [1, 2] [2] [] ⟨[(1, (.v (.int .i64 b73_), [])), (2, (.ptr 2 0, []))], [(2, .cells [.sl (List.map GCell.c e72_.gCells), .sl (List.map cI.i64 e72_.gTrail)] [])], []⟩ _ (by kernel_rfl) .nil ?_
  refine Wc.seq ?_
  refine Wc.seq ?_
  refine Wc.region [{}, {}, { v := some (.int .i64 (e72_.gCells.length : Int)) }] [] [1, 2, 9, 10] [2] [] ⟨[(1, (.v (.int .i64 b73_), [])), (2, (.ptr 2 0, [])), (9, (.v (.int .i64 (wr.i64 ((e72_.gCells.length : Int) + 1))), [])), (10, (.v (.int .i64 0), []))], [(2, .cells [.sl (List.map GCell.c e72_.gCells), .sl (List.map cI.i64 e72_.gTrail)] [])], []⟩ _ (by kernel_rfl) (.cons (len_obl GCell.c e72_.gCells) .nil) ?_
  obtain ⟨out1, h73, h⟩ := obind h
  refine Wc.lastJ (fun st => out1 = .done () ∧ st = ⟨[], [], []⟩) ?_ ?_
  · refine Wc.block ?_
    refine Wc.loop (fun m st => ∃ (b74_ : Int) (b75_ : Int), st = ⟨[(1, (.v (.int .i64 b74_), [])), (2, (.ptr 2 0, [])), (9, (.v (.int .i64 (wr.i64 ((e72_.gCells.length : Int) + 1))), [])), (10, (.v (.int .i64 b75_), []))], [(2, .cells [.sl (List.map GCell.c e72_.gCells), .sl (List.map cI.i64 e72_.gTrail)] [])], []⟩ ∧ pimpl_follow_L1 k e72_ m b74_ b75_ = some out1) ?_ k ⟨_, _, rfl, h73⟩
    rintro m st ⟨b74_, b75_, rfl, h73⟩
    cases m with
    | zero => exact (onone h73).elim
    | succ m =>
      refine Wc.seq ?_
      refine Wc.region [] [] [1, 2, 9, 10, 11] [2] [] ⟨[(1, (.v (.int .i64 b74_), [])), (2, (.ptr 2 0, [])), (9, (.v (.int .i64 (wr.i64 ((e72_.gCells.length : Int) + 1))), [])), (10, (.v (.int .i64 b75_), [])), (11, (.v (.bool (decide (b75_ < (wr.i64 ((e72_.gCells.length : Int) + 1))))), []))], [(2, .cells [.sl (List.map GCell.c e72_.gCells), .sl (List.map cI.i64 e72_.gTrail)] [])], []⟩ _ (by kernel_rfl) .nil ?_
      refine Wc.seq ?_
      rcases oif h73 with ⟨h74, h73⟩ | ⟨h74, h73⟩
      · refine Wc.condT h74 (by kernel_rfl) ?_
        refine Wc.fix (st' := ⟨[(1, (.v (.int .i64 b74_), [])), (2, (.ptr 2 0, [])), (9, (.v (.int .i64 (wr.i64 ((e72_.gCells.length : Int) + 1))), [])), (10, (.v (.int .i64 b75_), []))], [(2, .cells [.sl (List.map GCell.c e72_.gCells), .sl (List.map cI.i64 e72_.gTrail)] [])], []⟩) [] [1, 2, 9, 10] [2] [] (by kernel_rfl) ?_
        refine Wc.skip ?_
        refine Wc.seq ?_
        refine Wc.block ?_
        refine Wc.seq ?_
        refine Wc.seq ?_
        obtain ⟨f76_, h75, h73⟩ := obind h73
        refine Wc.region [{}, {}, { r := some (.v (.bool f76_) []) }] [] [1, 2, 9, 10, 15] [2] [] ⟨[(1, (.v (.int .i64 b74_), [])), (2, (.ptr 2 0, [])), (9, (.v (.int .i64 (wr.i64 ((e72_.gCells.length : Int) + 1))), [])), (10, (.v (.int .i64 b75_), [])), (15, (.v (.bool (!f76_)), []))], [(2, .cells [.sl (List.map GCell.c e72_.gCells), .sl (List.map cI.i64 e72_.gTrail)] [])], []⟩ _ (by kernel_rfl) (.cons (cimpl_isCell h75) .nil) ?_
        rcases oif h73 with ⟨h76, h73⟩ | ⟨h76, h73⟩
        · refine Wc.condT h76 (by kernel_rfl) ?_
          refine Wc.seq ?_
          refine Wc.region [] [] [4] [] [] ⟨[(4, (.v (.int .i64 (-1)), []))], [], []⟩ _ (by kernel_rfl) .nil ?_
          refine Wc.ret ?_
          obtain rfl := Option.some.inj h73
          obtain rfl := Option.some.inj h
          exact ⟨.inl rfl, by kernel_rfl, by kernel_rfl⟩
        · refine Wc.condF h76 (by kernel_rfl) ?_
          refine Wc.fix (st' := ⟨[(1, (.v (.int .i64 b74_), [])), (2, (.ptr 2 0, [])), (9, (.v (.int .i64 (wr.i64 ((e72_.gCells.length : Int) + 1))), [])), (10, (.v (.int .i64 b75_), []))], [(2, .cells [.sl (List.map GCell.c e72_.gCells), .sl (List.map cI.i64 e72_.gTrail)] [])], []⟩) [] [1, 2, 9, 10] [2] [] (by kernel_rfl) ?_
          refine Wc.skip ?_
          refine Wc.seq ?_
          refine Wc.seq ?_
          obtain ⟨c77_, h77, h73⟩ := obind h73
          refine Wc.region [{}, {}, {}, { v := some (.vptr [.int .i64 c77_.gKind, .str c77_.gName, .int .i64 c77_.gNum, .int .i64 c77_.gTo, .sl (List.map cI.i64 c77_.gKids)]) }] [] [1, 2, 5, 9, 10] [2, 5] [] ⟨[(1, (.v (.int .i64 b74_), [])), (2, (.ptr 2 0, [])), (5, (.ptr 5 0, [])), (9, (.v (.int .i64 (wr.i64 ((e72_.gCells.length : Int) + 1))), [])), (10, (.v (.int .i64 b75_), []))], [(2, .cells [.sl (List.map GCell.c e72_.gCells), .sl (List.map cI.i64 e72_.gTrail)] []), (5, .cells [.int .i64 c77_.gKind, .str c77_.gName, .int .i64 c77_.gNum, .int .i64 c77_.gTo, .sl (List.map cI.i64 c77_.gKids)] [])], []⟩ _ (by kernel_rfl) (.cons (at_obl (c := GCell.c) (GCell.c_eq c77_) GCell.c_len h77) (.cons (len_ok 5 [.int .i64 c77_.gKind, .str c77_.gName, .int .i64 c77_.gNum, .int .i64 c77_.gTo, .sl (List.map cI.i64 c77_.gKids)]) .nil)) ?_
          refine Wc.seq ?_
          rcases oif h73 with ⟨h78, h73⟩ | ⟨h78, h73⟩
          · refine Wc.region [{}, {}, {}, { re := some (.bool true) }] [] [1, 2, 9, 10, 28] [2] [] ⟨[(1, (.v (.int .i64 b74_), [])), (2, (.ptr 2 0, [])), (9, (.v (.int .i64 (wr.i64 ((e72_.gCells.length : Int) + 1))), [])), (10, (.v (.int .i64 b75_), [])), (28, (.v (.bool true), []))], [(2, .cells [.sl (List.map GCell.c e72_.gCells), .sl (List.map cI.i64 e72_.gTrail)] [])], []⟩ _ (by kernel_rfl) (.cons (congrArg AV.bool h78) .nil) ?_
            refine Wc.condT rfl (by kernel_rfl) ?_
            refine Wc.seq ?_
            refine Wc.region [] [] [4] [] [] ⟨[(4, (.v (.int .i64 b74_), []))], [], []⟩ _ (by kernel_rfl) .nil ?_
            refine Wc.ret ?_
            obtain rfl := Option.some.inj h73
            obtain rfl := Option.some.inj h
            exact ⟨.inl rfl, by kernel_rfl, by kernel_rfl⟩
          · refine Wc.region [{}, {}, {}, { re := some (.bool false) }] [] [1, 2, 9, 10, 28] [2] [] ⟨[(1, (.v (.int .i64 b74_), [])), (2, (.ptr 2 0, [])), (9, (.v (.int .i64 (wr.i64 ((e72_.gCells.length : Int) + 1))), [])), (10, (.v (.int .i64 b75_), [])), (28, (.v (.bool (decide (c77_.gTo < 0))), []))], [(2, .cells [.sl (List.map GCell.c e72_.gCells), .sl (List.map cI.i64 e72_.gTrail)] [])], []⟩ _ (by kernel_rfl) (.cons (congrArg AV.bool h78) .nil) ?_
            rcases oif h73 with ⟨h79, h73⟩ | ⟨h79, h73⟩
            · refine Wc.condT h79 (by kernel_rfl) ?_
              refine Wc.seq ?_
              refine Wc.region [] [] [4] [] [] ⟨[(4, (.v (.int .i64 b74_), []))], [], []⟩ _ (by kernel_rfl) .nil ?_
              refine Wc.ret ?_
              obtain rfl := Option.some.inj h73
              obtain rfl := Option.some.inj h
              exact ⟨.inl rfl, by kernel_rfl, by kernel_rfl⟩
            · refine Wc.condF h79 (by kernel_rfl) ?_
              refine Wc.fix (st' := ⟨[(1, (.v (.int .i64 b74_), [])), (2, (.ptr 2 0, [])), (9, (.v (.int .i64 (wr.i64 ((e72_.gCells.length : Int) + 1))), [])), (10, (.v (.int .i64 b75_), []))], [(2, .cells [.sl (List.map GCell.c e72_.gCells), .sl (List.map cI.i64 e72_.gTrail)] [])], []⟩) [] [1, 2, 9, 10] [2] [] (by kernel_rfl) ?_
              refine Wc.skip ?_
              obtain ⟨c78_, h80, h73⟩ := obind h73
              refine Wc.region [{}, {}, {}, { v := some (.vptr [.int .i64 c78_.gKind, .str c78_.gName, .int .i64 c78_.gNum, .int .i64 c78_.gTo, .sl (List.map cI.i64 c78_.gKids)]) }] [] [1, 2, 9, 10] [2] [] ⟨[(1, (.v (.int .i64 c78_.gTo), [])), (2, (.ptr 2 0, [])), (9, (.v (.int .i64 (wr.i64 ((e72_.gCells.length : Int) + 1))), [])), (10, (.v (.int .i64 b75_), []))], [(2, .cells [.sl (List.map GCell.c e72_.gCells), .sl (List.map cI.i64 e72_.gTrail)] [])], []⟩ _ (by kernel_rfl) (.cons (at_obl (c := GCell.c) (GCell.c_eq c78_) GCell.c_len h80) (.cons (len_ok 1 [.int .i64 c78_.gTo, .sl (List.map cI.i64 c78_.gKids)]) .nil)) ?_
              refine Wc.region [] [] [1, 2, 9, 10] [2] [] ⟨[(1, (.v (.int .i64 c78_.gTo), [])), (2, (.ptr 2 0, [])), (9, (.v (.int .i64 (wr.i64 ((e72_.gCells.length : Int) + 1))), [])), (10, (.v (.int .i64 (wr.i64 (b75_ + 1))), []))], [(2, .cells [.sl (List.map GCell.c e72_.gCells), .sl (List.map cI.i64 e72_.gTrail)] [])], []⟩ _ (by kernel_rfl) .nil ?_
              exact ⟨_, Nat.lt_succ_self _, _, _, rfl, h73⟩
      · refine Wc.condF h74 (by kernel_rfl) ?_
        refine Wc.fix (st' := ⟨[], [], []⟩) [] [] [] [] (by kernel_rfl) ?_
        refine Wc.exit ?_
        obtain rfl := Option.some.inj h73
        exact ⟨rfl, rfl⟩
  · rintro st ⟨rfl, rfl⟩
    refine Wc.seq ?_
    refine Wc.region [] [] [4] [] [] ⟨[(4, (.v (.int .i64 (-1)), []))], [], []⟩ _ (by kernel_rfl) .nil ?_
    refine Wc.ret ?_
    obtain rfl := Option.some.inj h
    exact ⟨.inl rfl, by kernel_rfl, by kernel_rfl⟩

def pimpl_HeapOk_L3 (k : Nat) (c82_ : GCell) (e79_ : GHeap) : Nat → Int → Option (Out Bool Unit)
  | 0, _ => none
  | m + 1, b85_ =>
    if (decide (b85_ < (c82_.gKids.length : Int))) = true then
      (at' c82_.gKids b85_).bind fun b86_ =>
      (pimpl_isCell k e79_ b86_).bind fun f87_ =>
      if (!f87_) = true then
        some (.ret false)
      else
        pimpl_HeapOk_L3 k c82_ e79_ m (wr.i64 (b85_ + 1))
    else
      some (.done ())
def pimpl_HeapOk_J2 (k : Nat) (bk_ : Int → (List (Int × Int)) → Option (Out Bool Unit)) (c82_ : GCell) (e79_ : GHeap) (b80_ : Int) (j84_ : List (Int × Int)) : Option (Out Bool Unit) :=
  (pimpl_HeapOk_L3 k c82_ e79_ k 0).bind fun out3 => match out3 with
  | .ret r => some (.ret r)
  | .done () =>
    bk_ (wr.i64 (b80_ + 1)) j84_
def pimpl_HeapOk_L1 (k : Nat) (e79_ : GHeap) : Nat → Int → (List (Int × Int)) → Option (Out Bool Unit)
  | 0, _, _ => none
  | m + 1, b80_, j81_ =>
    if (decide (b80_ < (e79_.gCells.length : Int))) = true then
      (at' e79_.gCells b80_).bind fun c82_ =>
      (pimpl_within k c82_.gKind 1 4).bind fun f83_ =>
      if (!f83_) = true then
        some (.ret false)
      else
        if (c82_.gKind == 1) = true then
          if (decide ((mget (mset j81_ c82_.gNum (wr.i64 ((mget j81_ c82_.gNum) + 1))) c82_.gNum) > 1)) = true then
            some (.ret false)
          else
            if (c82_.gTo != (-1)) = true then
              (pimpl_isCell k e79_ c82_.gTo).bind fun f88_ =>
              if (!f88_) = true then
                some (.ret false)
              else
                (pimpl_follow k e79_ b80_).bind fun b89_ =>
                if (decide (b89_ < 0)) = true then
                  some (.ret false)
                else
                  pimpl_HeapOk_J2 k (pimpl_HeapOk_L1 k e79_ m) c82_ e79_ b80_ (mset j81_ c82_.gNum (wr.i64 ((mget j81_ c82_.gNum) + 1)))
            else
              (pimpl_follow k e79_ b80_).bind fun b88_ =>
              if (decide (b88_ < 0)) = true then
                some (.ret false)
              else
                pimpl_HeapOk_J2 k (pimpl_HeapOk_L1 k e79_ m) c82_ e79_ b80_ (mset j81_ c82_.gNum (wr.i64 ((mget j81_ c82_.gNum) + 1)))
        else
          pimpl_HeapOk_J2 k (pimpl_HeapOk_L1 k e79_ m) c82_ e79_ b80_ j81_
    else
      some (.done ())
def pimpl_HeapOk_L4 (k : Nat) (e79_ : GHeap) : Nat → Int → Option (Out Bool Unit)
  | 0, _ => none
  | m + 1, b90_ =>
    if (decide (b90_ < (e79_.gTrail.length : Int))) = true then
      (at' e79_.gTrail b90_).bind fun b91_ =>
      (pimpl_isCell k e79_ b91_).bind fun f92_ =>
      if (!f92_) = true then
        some (.ret false)
      else
        (at' e79_.gCells b91_).bind fun c93_ =>
        if (c93_.gKind != 1) = true then
          some (.ret false)
        else
          pimpl_HeapOk_L4 k e79_ m (wr.i64 (b90_ + 1))
    else
      some (.done ())
/-- impl.HeapOk -/
def pimpl_HeapOk (k : Nat) (e79_ : GHeap) : Option Bool :=
  if (decide ((e79_.gCells.length : Int) > 60000)) = true then
    some false
  else
    (pimpl_HeapOk_L1 k e79_ k 0 []).bind fun out1 => match out1 with
    | .ret r => some r
    | .done () =>
      (pimpl_HeapOk_L4 k e79_ k 0).bind fun out4 => match out4 with
      | .ret r => some r
      | .done () =>
        some true
set_option maxHeartbeats 4000000 in
theorem cimpl_HeapOk {k : Nat} {e79_ : GHeap} {r : Bool} (h : pimpl_HeapOk k e79_ = some r) : FnO Try.prog 12 [.v (.agg [.sl (List.map GCell.c e79_.gCells), .sl (List.map cI.i64 e79_.gTrail)]) []] (.v (.bool r) []) [] := by
  refine FnO.of Try.func12 (rfl : Try.f12.body = some _) (Nat.le_of_ble_eq_true (by kernel_rfl)) (Nat.le_of_ble_eq_true (by kernel_rfl)) ?_
  intro w0 X0 Fin pv0 pb
  unfold pimpl_HeapOk at h
  refine Wc.seq ?_
  refine Wc.region [] [] [1] [1] [] ⟨[(1, (.ptr 1 0, []))], [(1, .cells [.sl (List.map GCell.c e79_.gCells), .sl (List.map cI.i64 e79_.gTrail)] [])], []⟩ _ (by kernel_rfl) .nil ?_
  refine Wc.seq ?_
  refine Wc.seq ?_
  refine Wc.region [{}, {}, { v := some (.int .i64 (e79_.gCells.length : Int)) }] [] [1, 13] [1] [] ⟨[(1, (.ptr 1 0, [])), (13, (.v (.bool (decide ((e79_.gCells.length : Int) > 60000))), []))], [(1, .cells [.sl (List.map GCell.c e79_.gCells), .sl (List.map cI.i64 e79_.gTrail)] [])], []⟩ _ (by kernel_rfl) (.cons (len_obl GCell.c e79_.gCells) .nil) ?_
  rcases oif h with ⟨h81, h⟩ | ⟨h81, h⟩
  · refine Wc.condT h81 (by kernel_rfl) ?_
    refine Wc.seq ?_
    refine Wc.region [] [] [2] [] [] ⟨[(2, (.v (.bool false), []))], [], []⟩ _ (by kernel_rfl) .nil ?_
    refine Wc.ret ?_
    obtain rfl := Option.some.inj h
    exact ⟨.inl rfl, by kernel_rfl, by kernel_rfl⟩
  · refine Wc.condF h81 (by kernel_rfl) ?_
    refine Wc.fix (st' := ⟨[(1, (.ptr 1 0, []))], [(1, .cells [.sl (List.map GCell.c e79_.gCells), .sl (List.map cI.i64 e79_.gTrail)] [])], []⟩) [] [1] [1] [] (by kernel_rfl) ?_
    refine Wc.skip ?_
    refine Wc.seq ?_
    refine Wc.region [] [] [1, 3] [1, 14] [] ⟨[(1, (.ptr 1 0, [])), (3, (.mp 14, []))], [(1, .cells [.sl (List.map GCell.c e79_.gCells), .sl (List.map cI.i64 e79_.gTrail)] []), (14, .map (mgk []) (mgv []))], []⟩ _ (by kernel_rfl) .nil ?_
    refine Wc.seq ?_
    refine Wc.seq ?_
    refine Wc.region [{}, {}, { v := some (.int .i64 (e79_.gCells.length : Int)) }] [] [1, 3, 16, 17, 18] [1, 14] [] ⟨[(1, (.ptr 1 0, [])), (3, (.mp 14, [])), (16, (.v (.sl (List.map GCell.c e79_.gCells)), [])), (17, (.v (.int .i64 (e79_.gCells.length : Int)), [])), (18, (.v (.int .i64 0), []))], [(1, .cells [.sl (List.map GCell.c e79_.gCells), .sl (List.map cI.i64 e79_.gTrail)] []), (14, .map (mgk []) (mgv []))], []⟩ _ (by kernel_rfl) (.cons (len_obl GCell.c e79_.gCells) .nil) ?_
    obtain ⟨out1, h82, h⟩ := obind h
    refine Wc.lastJ (fun st => out1 = .done () ∧ st = ⟨[(1, (.ptr 1 0, []))], [(1, .cells [.sl (List.map GCell.c e79_.gCells), .sl (List.map cI.i64 e79_.gTrail)] [])], []⟩) ?_ ?_
    · refine Wc.block ?_
      refine Wc.loop (fun m st => ∃ (b80_ : Int) (j81_ : List (Int × Int)), st = ⟨[(1, (.ptr 1 0, [])), (3, (.mp 14, [])), (16, (.v (.sl (List.map GCell.c e79_.gCells)), [])), (17, (.v (.int .i64 (e79_.gCells.length : Int)), [])), (18, (.v (.int .i64 b80_), []))], [(1, .cells [.sl (List.map GCell.c e79_.gCells), .sl (List.map cI.i64 e79_.gTrail)] []), (14, .map (mgk j81_) (mgv j81_))], []⟩ ∧ pimpl_HeapOk_L1 k e79_ m b80_ j81_ = some out1) ?_ k ⟨_, _, rfl, h82⟩
      rintro m st ⟨b80_, j81_, rfl, h82⟩
      cases m with
      | zero => exact (onone h82).elim
      | succ m =>
        refine Wc.seq ?_
        refine Wc.region [] [] [1, 3, 16, 17, 18, 19] [1, 14] [] ⟨[(1, (.ptr 1 0, [])), (3, (.mp 14, [])), (16, (.v (.sl (List.map GCell.c e79_.gCells)), [])), (17, (.v (.int .i64 (e79_.gCells.length : Int)), [])), (18, (.v (.int .i64 b80_), [])), (19, (.v (.bool (decide (b80_ < (e79_.gCells.length : Int)))), []))], [(1, .cells [.sl (List.map GCell.c e79_.gCells), .sl (List.map cI.i64 e79_.gTrail)] []), (14, .map (mgk j81_) (mgv j81_))], []⟩ _ (by kernel_rfl) .nil ?_
        refine Wc.seq ?_
        rcases oif h82 with ⟨h83, h82⟩ | ⟨h83, h82⟩
        · refine Wc.condT h83 (by kernel_rfl) ?_
          refine Wc.fix (st' := ⟨[(1, (.ptr 1 0, [])), (3, (.mp 14, [])), (16, (.v (.sl (List.map GCell.c e79_.gCells)), [])), (17, (.v (.int .i64 (e79_.gCells.length : Int)), [])), (18, (.v (.int .i64 b80_), []))], [(1, .cells [.sl (List.map GCell.c e79_.gCells), .sl (List.map cI.i64 e79_.gTrail)] []), (14, .map (mgk j81_) (mgv j81_))], []⟩) [] [1, 3, 16, 17, 18] [1, 14] [] (by kernel_rfl) ?_
          refine Wc.skip ?_
          refine Wc.seq ?_
          refine Wc.block ?_
          refine Wc.seq ?_
          obtain ⟨c82_, h84, h82⟩ := obind h82
          refine Wc.region [{}, { v := some (.vptr [.int .i64 c82_.gKind, .str c82_.gName, .int .i64 c82_.gNum, .int .i64 c82_.gTo, .sl (List.map cI.i64 c82_.gKids)]) }] [] [1, 3, 4, 5, 16, 17, 18] [1, 5, 14] [] ⟨[(1, (.ptr 1 0, [])), (3, (.mp 14, [])), (4, (.v (.int .i64 b80_), [])), (5, (.ptr 5 0, [])), (16, (.v (.sl (List.map GCell.c e79_.gCells)), [])), (17, (.v (.int .i64 (e79_.gCells.length : Int)), [])), (18, (.v (.int .i64 b80_), []))], [(1, .cells [.sl (List.map GCell.c e79_.gCells), .sl (List.map cI.i64 e79_.gTrail)] []), (5, .cells [.int .i64 c82_.gKind, .str c82_.gName, .int .i64 c82_.gNum, .int .i64 c82_.gTo, .sl (List.map cI.i64 c82_.gKids)] []), (14, .map (mgk j81_) (mgv j81_))], []⟩ _ (by kernel_rfl) (.cons (at_obl (c := GCell.c) (GCell.c_eq c82_) GCell.c_len h84) (.cons (len_ok 5 [.int .i64 c82_.gKind, .str c82_.gName, .int .i64 c82_.gNum, .int .i64 c82_.gTo, .sl (List.map cI.i64 c82_.gKids)]) .nil)) ?_
          refine Wc.seq ?_
          refine Wc.seq ?_
          obtain ⟨f83_, h85, h82⟩ := obind h82
          refine Wc.region [{}, {}, { r := some (.v (.bool f83_) []) }] [] [1, 3, 4, 5, 16, 17, 18, 26] [1, 5, 14] [] ⟨[(1, (.ptr 1 0, [])), (3, (.mp 14, [])), (4, (.v (.int .i64 b80_), [])), (5, (.ptr 5 0, [])), (16, (.v (.sl (List.map GCell.c e79_.gCells)), [])), (17, (.v (.int .i64 (e79_.gCells.length : Int)), [])), (18, (.v (.int .i64 b80_), [])), (26, (.v (.bool (!f83_)), []))], [(1, .cells [.sl (List.map GCell.c e79_.gCells), .sl (List.map cI.i64 e79_.gTrail)] []), (5, .cells [.int .i64 c82_.gKind, .str c82_.gName, .int .i64 c82_.gNum, .int .i64 c82_.gTo, .sl (List.map cI.i64 c82_.gKids)] []), (14, .map (mgk j81_) (mgv j81_))], []⟩ _ (by kernel_rfl) (.cons (cimpl_within h85) .nil) ?_
          rcases oif h82 with ⟨h86, h82⟩ | ⟨h86, h82⟩
          · refine Wc.condT h86 (by kernel_rfl) ?_
            refine Wc.seq ?_
            refine Wc.region [] [] [2] [] [] ⟨[(2, (.v (.bool false), []))], [], []⟩ _ (by kernel_rfl) .nil ?_
            refine Wc.ret ?_
            obtain rfl := Option.some.inj h82
            obtain rfl := Option.some.inj h
            exact ⟨.inl rfl, by kernel_rfl, by kernel_rfl⟩
          · refine Wc.condF h86 (by kernel_rfl) ?_
            refine Wc.fix (st' := ⟨[(1, (.ptr 1 0, [])), (3, (.mp 14, [])), (4, (.v (.int .i64 b80_), [])), (5, (.ptr 5 0, [])), (16, (.v (.sl (List.map GCell.c e79_.gCells)), [])), (17, (.v (.int .i64 (e79_.gCells.length : Int)), [])), (18, (.v (.int .i64 b80_), []))], [(1, .cells [.sl (List.map GCell.c e79_.gCells), .sl (List.map cI.i64 e79_.gTrail)] []), (5, .cells [.int .i64 c82_.gKind, .str c82_.gName, .int .i64 c82_.gNum, .int .i64 c82_.gTo, .sl (List.map cI.i64 c82_.gKids)] []), (14, .map (mgk j81_) (mgv j81_))], []⟩) [] [1, 3, 4, 5, 16, 17, 18] [1, 5, 14] [] (by kernel_rfl) ?_
            refine Wc.skip ?_
            refine Wc.seqJ (fun st => ∃ (j84_ : List (Int × Int)), st = ⟨[(1, (.ptr 1 0, [])), (3, (.mp 14, [])), (5, (.ptr 5 0, [])), (16, (.v (.sl (List.map GCell.c e79_.gCells)), [])), (17, (.v (.int .i64 (e79_.gCells.length : Int)), [])), (18, (.v (.int .i64 b80_), []))], [(1, .cells [.sl (List.map GCell.c e79_.gCells), .sl (List.map cI.i64 e79_.gTrail)] []), (5, .cells [.int .i64 c82_.gKind, .str c82_.gName, .int .i64 c82_.gNum, .int .i64 c82_.gTo, .sl (List.map cI.i64 c82_.gKids)] []), (14, .map (mgk j84_) (mgv j84_))], []⟩ ∧ pimpl_HeapOk_J2 k (pimpl_HeapOk_L1 k e79_ m) c82_ e79_ b80_ j84_ = some out1) ?_ ?_
            · refine Wc.seq ?_
              refine Wc.region [] [] [1, 3, 4, 5, 16, 17, 18, 29] [1, 5, 14] [] ⟨[(1, (.ptr 1 0, [])), (3, (.mp 14, [])), (4, (.v (.int .i64 b80_), [])), (5, (.ptr 5 0, [])), (16, (.v (.sl (List.map GCell.c e79_.gCells)), [])), (17, (.v (.int .i64 (e79_.gCells.length : Int)), [])), (18, (.v (.int .i64 b80_), [])), (29, (.v (.bool (c82_.gKind == 1)), []))], [(1, .cells [.sl (List.map GCell.c e79_.gCells), .sl (List.map cI.i64 e79_.gTrail)] []), (5, .cells [.int .i64 c82_.gKind, .str c82_.gName, .int .i64 c82_.gNum, .int .i64 c82_.gTo, .sl (List.map cI.i64 c82_.gKids)] []), (14, .map (mgk j81_) (mgv j81_))], []⟩ _ (by kernel_rfl) .nil ?_
              rcases oif h82 with ⟨h92, h82⟩ | ⟨h92, h82⟩
              · refine Wc.condT h92 (by kernel_rfl) ?_
                refine Wc.seq ?_
                refine Wc.region [{}, {}, {}, { v := some (.int .i64 (mget j81_ c82_.gNum)) }, {}, { c := some [mgk (mset j81_ c82_.gNum (wr.i64 ((mget j81_ c82_.gNum) + 1))), mgv (mset j81_ c82_.gNum (wr.i64 ((mget j81_ c82_.gNum) + 1)))] }] [] [1, 3, 4, 5, 16, 17, 18] [1, 5, 14] [] ⟨[(1, (.ptr 1 0, [])), (3, (.mp 14, [])), (4, (.v (.int .i64 b80_), [])), (5, (.ptr 5 0, [])), (16, (.v (.sl (List.map GCell.c e79_.gCells)), [])), (17, (.v (.int .i64 (e79_.gCells.length : Int)), [])), (18, (.v (.int .i64 b80_), []))], [(1, .cells [.sl (List.map GCell.c e79_.gCells), .sl (List.map cI.i64 e79_.gTrail)] []), (5, .cells [.int .i64 c82_.gKind, .str c82_.gName, .int .i64 c82_.gNum, .int .i64 c82_.gTo, .sl (List.map cI.i64 c82_.gKids)] []), (14, .map (mgk (mset j81_ c82_.gNum (wr.i64 ((mget j81_ c82_.gNum) + 1)))) (mgv (mset j81_ c82_.gNum (wr.i64 ((mget j81_ c82_.gNum) + 1)))))], []⟩ _ (by kernel_rfl) (.cons (mapget_obl j81_ c82_.gNum) (.cons (mapset_obl j81_ c82_.gNum (wr.i64 ((mget j81_ c82_.gNum) + 1))) .nil)) ?_
                refine Wc.seq ?_
                rcases oif h82 with ⟨h93, h82⟩ | ⟨h93, h82⟩
                · refine Wc.region [{}, {}, {}, { v := some (.int .i64 (mget (mset j81_ c82_.gNum (wr.i64 ((mget j81_ c82_.gNum) + 1))) c82_.gNum)) }, {}, { re := some (.bool true) }] [] [1, 3, 5, 16, 17, 18, 57] [1, 5, 14] [] ⟨[(1, (.ptr 1 0, [])), (3, (.mp 14, [])), (5, (.ptr 5 0, [])), (16, (.v (.sl (List.map GCell.c e79_.gCells)), [])), (17, (.v (.int .i64 (e79_.gCells.length : Int)), [])), (18, (.v (.int .i64 b80_), [])), (57, (.v (.bool true), []))], [(1, .cells [.sl (List.map GCell.c e79_.gCells), .sl (List.map cI.i64 e79_.gTrail)] []), (5, .cells [.int .i64 c82_.gKind, .str c82_.gName, .int .i64 c82_.gNum, .int .i64 c82_.gTo, .sl (List.map cI.i64 c82_.gKids)] []), (14, .map (mgk (mset j81_ c82_.gNum (wr.i64 ((mget j81_ c82_.gNum) + 1)))) (mgv (mset j81_ c82_.gNum (wr.i64 ((mget j81_ c82_.gNum) + 1)))))], []⟩ _ (by kernel_rfl) (.cons (mapget_obl (mset j81_ c82_.gNum (wr.i64 ((mget j81_ c82_.gNum) + 1))) c82_.gNum) (.cons (congrArg AV.bool h93) .nil)) ?_
                  refine Wc.condT rfl (by kernel_rfl) ?_
                  refine Wc.seq ?_
                  refine Wc.region [] [] [2] [] [] ⟨[(2, (.v (.bool false), []))], [], []⟩ _ (by kernel_rfl) .nil ?_
                  refine Wc.ret ?_
                  obtain rfl := Option.some.inj h82
                  obtain rfl := Option.some.inj h
                  exact ⟨.inl rfl, by kernel_rfl, by kernel_rfl⟩
                · rcases oif h82 with ⟨h94, h82⟩ | ⟨h94, h82⟩
                  · obtain ⟨f88_, h95, h82⟩ := obind h82
                    rcases oif h82 with ⟨h96, h82⟩ | ⟨h96, h82⟩
                    · refine Wc.region [{}, {}, {}, { v := some (.int .i64 (mget (mset j81_ c82_.gNum (wr.i64 ((mget j81_ c82_.gNum) + 1))) c82_.gNum)) }, {}, { re := some (.bool false) }, {}, {}, {}, { re := some (.bool true) }, {}, {}, {}, { r := some (.v (.bool f88_) []) }, {}, {}, {}, { re := some (.bool true) }] [] [1, 3, 5, 16, 17, 18, 57] [1, 5, 14] [] ⟨[(1, (.ptr 1 0, [])), (3, (.mp 14, [])), (5, (.ptr 5 0, [])), (16, (.v (.sl (List.map GCell.c e79_.gCells)), [])), (17, (.v (.int .i64 (e79_.gCells.length : Int)), [])), (18, (.v (.int .i64 b80_), [])), (57, (.v (.bool true), []))], [(1, .cells [.sl (List.map GCell.c e79_.gCells), .sl (List.map cI.i64 e79_.gTrail)] []), (5, .cells [.int .i64 c82_.gKind, .str c82_.gName, .int .i64 c82_.gNum, .int .i64 c82_.gTo, .sl (List.map cI.i64 c82_.gKids)] []), (14, .map (mgk (mset j81_ c82_.gNum (wr.i64 ((mget j81_ c82_.gNum) + 1)))) (mgv (mset j81_ c82_.gNum (wr.i64 ((mget j81_ c82_.gNum) + 1)))))], []⟩ _ (by kernel_rfl) (.cons (mapget_obl (mset j81_ c82_.gNum (wr.i64 ((mget j81_ c82_.gNum) + 1))) c82_.gNum) (.cons (congrArg AV.bool h93) (.cons (congrArg AV.bool h94) (.cons (cimpl_isCell h95) (.cons (congrArg AV.bool h96) .nil))))) ?_
                      refine Wc.condT rfl (by kernel_rfl) ?_
                      refine Wc.seq ?_
                      refine Wc.region [] [] [2] [] [] ⟨[(2, (.v (.bool false), []))], [], []⟩ _ (by kernel_rfl) .nil ?_
                      refine Wc.ret ?_
                      obtain rfl := Option.some.inj h82
                      obtain rfl := Option.some.inj h
                      exact ⟨.inl rfl, by kernel_rfl, by kernel_rfl⟩
                    · obtain ⟨b89_, h97, h82⟩ := obind h82
                      refine Wc.region [{}, {}, {}, { v := some (.int .i64 (mget (mset j81_ c82_.gNum (wr.i64 ((mget j81_ c82_.gNum) + 1))) c82_.gNum)) }, {}, { re := some (.bool false) }, {}, {}, {}, { re := some (.bool true) }, {}, {}, {}, { r := some (.v (.bool f88_) []) }, {}, {}, {}, { re := some (.bool false) }, {}, {}, { r := some (.v (.int .i64 b89_) []) }] [] [1, 3, 5, 16, 17, 18, 57] [1, 5, 14] [] ⟨[(1, (.ptr 1 0, [])), (3, (.mp 14, [])), (5, (.ptr 5 0, [])), (16, (.v (.sl (List.map GCell.c e79_.gCells)), [])), (17, (.v (.int .i64 (e79_.gCells.length : Int)), [])), (18, (.v (.int .i64 b80_), [])), (57, (.v (.bool (decide (b89_ < 0))), []))], [(1, .cells [.sl (List.map GCell.c e79_.gCells), .sl (List.map cI.i64 e79_.gTrail)] []), (5, .cells [.int .i64 c82_.gKind, .str c82_.gName, .int .i64 c82_.gNum, .int .i64 c82_.gTo, .sl (List.map cI.i64 c82_.gKids)] []), (14, .map (mgk (mset j81_ c82_.gNum (wr.i64 ((mget j81_ c82_.gNum) + 1)))) (mgv (mset j81_ c82_.gNum (wr.i64 ((mget j81_ c82_.gNum) + 1)))))], []⟩ _ (by kernel_rfl) (.cons (mapget_obl (mset j81_ c82_.gNum (wr.i64 ((mget j81_ c82_.gNum) + 1))) c82_.gNum) (.cons (congrArg AV.bool h93) (.cons (congrArg AV.bool h94) (.cons (cimpl_isCell h95) (.cons (congrArg AV.bool h96) (.cons (cimpl_follow h97) .nil)))))) ?_
                      rcases oif h82 with ⟨h98, h82⟩ | ⟨h98, h82⟩
                      · refine Wc.condT h98 (by kernel_rfl) ?_
                        refine Wc.seq ?_
                        refine Wc.region [] [] [2] [] [] ⟨[(2, (.v (.bool false), []))], [], []⟩ _ (by kernel_rfl) .nil ?_
                        refine Wc.ret ?_
                        obtain rfl := Option.some.inj h82
                        obtain rfl := Option.some.inj h
                        exact ⟨.inl rfl, by kernel_rfl, by kernel_rfl⟩
                      · refine Wc.condF h98 (by kernel_rfl) ?_
                        refine Wc.fix (st' := ⟨[(1, (.ptr 1 0, [])), (3, (.mp 14, [])), (5, (.ptr 5 0, [])), (16, (.v (.sl (List.map GCell.c e79_.gCells)), [])), (17, (.v (.int .i64 (e79_.gCells.length : Int)), [])), (18, (.v (.int .i64 b80_), []))], [(1, .cells [.sl (List.map GCell.c e79_.gCells), .sl (List.map cI.i64 e79_.gTrail)] []), (5, .cells [.int .i64 c82_.gKind, .str c82_.gName, .int .i64 c82_.gNum, .int .i64 c82_.gTo, .sl (List.map cI.i64 c82_.gKids)] []), (14, .map (mgk (mset j81_ c82_.gNum (wr.i64 ((mget j81_ c82_.gNum) + 1)))) (mgv (mset j81_ c82_.gNum (wr.i64 ((mget j81_ c82_.gNum) + 1)))))], []⟩) [] [1, 3, 5, 16, 17, 18] [1, 5, 14] [] (by kernel_rfl) ?_
                        refine Wc.skip ?_
                        exact ⟨_, rfl, h82⟩
                  · obtain ⟨b88_, h95, h82⟩ := obind h82
                    refine Wc.region [{}, {}, {}, { v := some (.int .i64 (mget (mset j81_ c82_.gNum (wr.i64 ((mget j81_ c82_.gNum) + 1))) c82_.gNum)) }, {}, { re := some (.bool false) }, {}, {}, {}, { re := some (.bool false) }, {}, {}, {}, {}, {}, {}, {}, {}, {}, {}, { r := some (.v (.int .i64 b88_) []) }] [] [1, 3, 5, 16, 17, 18, 57] [1, 5, 14] [] ⟨[(1, (.ptr 1 0, [])), (3, (.mp 14, [])), (5, (.ptr 5 0, [])), (16, (.v (.sl (List.map GCell.c e79_.gCells)), [])), (17, (.v (.int .i64 (e79_.gCells.length : Int)), [])), (18, (.v (.int .i64 b80_), [])), (57, (.v (.bool (decide (b88_ < 0))), []))], [(1, .cells [.sl (List.map GCell.c e79_.gCells), .sl (List.map cI.i64 e79_.gTrail)] []), (5, .cells [.int .i64 c82_.gKind, .str c82_.gName, .int .i64 c82_.gNum, .int .i64 c82_.gTo, .sl (List.map cI.i64 c82_.gKids)] []), (14, .map (mgk (mset j81_ c82_.gNum (wr.i64 ((mget j81_ c82_.gNum) + 1)))) (mgv (mset j81_ c82_.gNum (wr.i64 ((mget j81_ c82_.gNum) + 1)))))], []⟩ _ (by kernel_rfl) (.cons (mapget_obl (mset j81_ c82_.gNum (wr.i64 ((mget j81_ c82_.gNum) + 1))) c82_.gNum) (.cons (congrArg AV.bool h93) (.cons (congrArg AV.bool h94) (.cons (cimpl_follow h95) .nil)))) ?_
                    rcases oif h82 with ⟨h99, h82⟩ | ⟨h99, h82⟩
                    · refine Wc.condT h99 (by kernel_rfl) ?_
                      refine Wc.seq ?_
                      refine Wc.region [] [] [2] [] [] ⟨[(2, (.v (.bool false), []))], [], []⟩ _ (by kernel_rfl) .nil ?_
                      refine Wc.ret ?_
                      obtain rfl := Option.some.inj h82
                      obtain rfl := Option.some.inj h
                      exact ⟨.inl rfl, by kernel_rfl, by kernel_rfl⟩
                    · refine Wc.condF h99 (by kernel_rfl) ?_
                      refine Wc.fix (st' := ⟨[(1, (.ptr 1 0, [])), (3, (.mp 14, [])), (5, (.ptr 5 0, [])), (16, (.v (.sl (List.map GCell.c e79_.gCells)), [])), (17, (.v (.int .i64 (e79_.gCells.length : Int)), [])), (18, (.v (.int .i64 b80_), []))], [(1, .cells [.sl (List.map GCell.c e79_.gCells), .sl (List.map cI.i64 e79_.gTrail)] []), (5, .cells [.int .i64 c82_.gKind, .str c82_.gName, .int .i64 c82_.gNum, .int .i64 c82_.gTo, .sl (List.map cI.i64 c82_.gKids)] []), (14, .map (mgk (mset j81_ c82_.gNum (wr.i64 ((mget j81_ c82_.gNum) + 1)))) (mgv (mset j81_ c82_.gNum (wr.i64 ((mget j81_ c82_.gNum) + 1)))))], []⟩) [] [1, 3, 5, 16, 17, 18] [1, 5, 14] [] (by kernel_rfl) ?_
                      refine Wc.skip ?_
                      exact ⟨_, rfl, h82⟩
              · refine Wc.condF h92 (by kernel_rfl) ?_
                refine Wc.fix (st' := ⟨[(1, (.ptr 1 0, [])), (3, (.mp 14, [])), (5, (.ptr 5 0, [])), (16, (.v (.sl (List.map GCell.c e79_.gCells)), [])), (17, (.v (.int .i64 (e79_.gCells.length : Int)), [])), (18, (.v (.int .i64 b80_), []))], [(1, .cells [.sl (List.map GCell.c e79_.gCells), .sl (List.map cI.i64 e79_.gTrail)] []), (5, .cells [.int .i64 c82_.gKind, .str c82_.gName, .int .i64 c82_.gNum, .int .i64 c82_.gTo, .sl (List.map cI.i64 c82_.gKids)] []), (14, .map (mgk j81_) (mgv j81_))], []⟩) [] [1, 3, 5, 16, 17, 18] [1, 5, 14] [] (by kernel_rfl) ?_
                refine Wc.skip ?_
                exact ⟨_, rfl, h82⟩
            · rintro st ⟨j84_, rfl, h82⟩
              refine Wc.seq ?_
              refine Wc.region [{}, {}, { v := some (.int .i64 (c82_.gKids.length : Int)) }] [] [1, 3, 16, 17, 18, 59, 60, 61] [1, 14] [] ⟨[(1, (.ptr 1 0, [])), (3, (.mp 14, [])), (16, (.v (.sl (List.map GCell.c e79_.gCells)), [])), (17, (.v (.int .i64 (e79_.gCells.length : Int)), [])), (18, (.v (.int .i64 b80_), [])), (59, (.v (.sl (List.map cI.i64 c82_.gKids)), [])), (60, (.v (.int .i64 (c82_.gKids.length : Int)), [])), (61, (.v (.int .i64 0), []))], [(1, .cells [.sl (List.map GCell.c e79_.gCells), .sl (List.map cI.i64 e79_.gTrail)] []), (14, .map (mgk j84_) (mgv j84_))], []⟩ _ (by kernel_rfl) (.cons (len_obl cI.i64 c82_.gKids) .nil) ?_
              obtain ⟨out3, h87, h82⟩ := obind h82
              refine Wc.lastJ (fun st => out3 = .done () ∧ st = ⟨[(1, (.ptr 1 0, [])), (3, (.mp 14, [])), (16, (.v (.sl (List.map GCell.c e79_.gCells)), [])), (17, (.v (.int .i64 (e79_.gCells.length : Int)), [])), (18, (.v (.int .i64 b80_), []))], [(1, .cells [.sl (List.map GCell.c e79_.gCells), .sl (List.map cI.i64 e79_.gTrail)] []), (14, .map (mgk j84_) (mgv j84_))], []⟩) ?_ ?_
              · refine Wc.block ?_
                refine Wc.loop (fun m st => ∃ (b85_ : Int), st = ⟨[(1, (.ptr 1 0, [])), (3, (.mp 14, [])), (16, (.v (.sl (List.map GCell.c e79_.gCells)), [])), (17, (.v (.int .i64 (e79_.gCells.length : Int)), [])), (18, (.v (.int .i64 b80_), [])), (59, (.v (.sl (List.map cI.i64 c82_.gKids)), [])), (60, (.v (.int .i64 (c82_.gKids.length : Int)), [])), (61, (.v (.int .i64 b85_), []))], [(1, .cells [.sl (List.map GCell.c e79_.gCells), .sl (List.map cI.i64 e79_.gTrail)] []), (14, .map (mgk j84_) (mgv j84_))], []⟩ ∧ pimpl_HeapOk_L3 k c82_ e79_ m b85_ = some out3) ?_ k ⟨_, rfl, h87⟩
                rintro m st ⟨b85_, rfl, h87⟩
                cases m with
                | zero => exact (onone h87).elim
                | succ m =>
                  refine Wc.seq ?_
                  refine Wc.region [] [] [1, 3, 16, 17, 18, 59, 60, 61, 62] [1, 14] [] ⟨[(1, (.ptr 1 0, [])), (3, (.mp 14, [])), (16, (.v (.sl (List.map GCell.c e79_.gCells)), [])), (17, (.v (.int .i64 (e79_.gCells.length : Int)), [])), (18, (.v (.int .i64 b80_), [])), (59, (.v (.sl (List.map cI.i64 c82_.gKids)), [])), (60, (.v (.int .i64 (c82_.gKids.length : Int)), [])), (61, (.v (.int .i64 b85_), [])), (62, (.v (.bool (decide (b85_ < (c82_.gKids.length : Int)))), []))], [(1, .cells [.sl (List.map GCell.c e79_.gCells), .sl (List.map cI.i64 e79_.gTrail)] []), (14, .map (mgk j84_) (mgv j84_))], []⟩ _ (by kernel_rfl) .nil ?_
                  refine Wc.seq ?_
                  rcases oif h87 with ⟨h88, h87⟩ | ⟨h88, h87⟩
                  · refine Wc.condT h88 (by kernel_rfl) ?_
                    refine Wc.fix (st' := ⟨[(1, (.ptr 1 0, [])), (3, (.mp 14, [])), (16, (.v (.sl (List.map GCell.c e79_.gCells)), [])), (17, (.v (.int .i64 (e79_.gCells.length : Int)), [])), (18, (.v (.int .i64 b80_), [])), (59, (.v (.sl (List.map cI.i64 c82_.gKids)), [])), (60, (.v (.int .i64 (c82_.gKids.length : Int)), [])), (61, (.v (.int .i64 b85_), []))], [(1, .cells [.sl (List.map GCell.c e79_.gCells), .sl (List.map cI.i64 e79_.gTrail)] []), (14, .map (mgk j84_) (mgv j84_))], []⟩) [] [1, 3, 16, 17, 18, 59, 60, 61] [1, 14] [] (by kernel_rfl) ?_
                    refine Wc.skip ?_
                    refine Wc.seq ?_
                    refine Wc.block ?_
                    refine Wc.seq ?_
                    obtain ⟨b86_, h89, h87⟩ := obind h87
                    refine Wc.region [{ v := some (.vptr [.int .i64 b86_]) }] [] [1, 3, 7, 16, 17, 18, 59, 60, 61] [1, 14] [] ⟨[(1, (.ptr 1 0, [])), (3, (.mp 14, [])), (7, (.v (.int .i64 b86_), [])), (16, (.v (.sl (List.map GCell.c e79_.gCells)), [])), (17, (.v (.int .i64 (e79_.gCells.length : Int)), [])), (18, (.v (.int .i64 b80_), [])), (59, (.v (.sl (List.map cI.i64 c82_.gKids)), [])), (60, (.v (.int .i64 (c82_.gKids.length : Int)), [])), (61, (.v (.int .i64 b85_), []))], [(1, .cells [.sl (List.map GCell.c e79_.gCells), .sl (List.map cI.i64 e79_.gTrail)] []), (14, .map (mgk j84_) (mgv j84_))], []⟩ _ (by kernel_rfl) (.cons (at_obl (c := cI.i64) rfl cI.i64_len h89) (.cons (len_ok 1 [.int .i64 b86_]) .nil)) ?_
                    refine Wc.seq ?_
                    obtain ⟨f87_, h90, h87⟩ := obind h87
                    refine Wc.region [{}, {}, { r := some (.v (.bool f87_) []) }] [] [1, 3, 16, 17, 18, 59, 60, 61, 68] [1, 14] [] ⟨[(1, (.ptr 1 0, [])), (3, (.mp 14, [])), (16, (.v (.sl (List.map GCell.c e79_.gCells)), [])), (17, (.v (.int .i64 (e79_.gCells.length : Int)), [])), (18, (.v (.int .i64 b80_), [])), (59, (.v (.sl (List.map cI.i64 c82_.gKids)), [])), (60, (.v (.int .i64 (c82_.gKids.length : Int)), [])), (61, (.v (.int .i64 b85_), [])), (68, (.v (.bool (!f87_)), []))], [(1, .cells [.sl (List.map GCell.c e79_.gCells), .sl (List.map cI.i64 e79_.gTrail)] []), (14, .map (mgk j84_) (mgv j84_))], []⟩ _ (by kernel_rfl) (.cons (cimpl_isCell h90) .nil) ?_
                    rcases oif h87 with ⟨h91, h87⟩ | ⟨h91, h87⟩
                    · refine Wc.condT h91 (by kernel_rfl) ?_
                      refine Wc.seq ?_
                      refine Wc.region [] [] [2] [] [] ⟨[(2, (.v (.bool false), []))], [], []⟩ _ (by kernel_rfl) .nil ?_
                      refine Wc.ret ?_
                      obtain rfl := Option.some.inj h87
                      obtain rfl := Option.some.inj h82
                      obtain rfl := Option.some.inj h
                      exact ⟨.inl rfl, by kernel_rfl, by kernel_rfl⟩
                    · refine Wc.condF h91 (by kernel_rfl) ?_
                      refine Wc.fix (st' := ⟨[(1, (.ptr 1 0, [])), (3, (.mp 14, [])), (16, (.v (.sl (List.map GCell.c e79_.gCells)), [])), (17, (.v (.int .i64 (e79_.gCells.length : Int)), [])), (18, (.v (.int .i64 b80_), [])), (59, (.v (.sl (List.map cI.i64 c82_.gKids)), [])), (60, (.v (.int .i64 (c82_.gKids.length : Int)), [])), (61, (.v (.int .i64 b85_), []))], [(1, .cells [.sl (List.map GCell.c e79_.gCells), .sl (List.map cI.i64 e79_.gTrail)] []), (14, .map (mgk j84_) (mgv j84_))], []⟩) [] [1, 3, 16, 17, 18, 59, 60, 61] [1, 14] [] (by kernel_rfl) ?_
                      refine Wc.skip ?_
                      refine Wc.region [] [] [1, 3, 16, 17, 18, 59, 60, 61] [1, 14] [] ⟨[(1, (.ptr 1 0, [])), (3, (.mp 14, [])), (16, (.v (.sl (List.map GCell.c e79_.gCells)), [])), (17, (.v (.int .i64 (e79_.gCells.length : Int)), [])), (18, (.v (.int .i64 b80_), [])), (59, (.v (.sl (List.map cI.i64 c82_.gKids)), [])), (60, (.v (.int .i64 (c82_.gKids.length : Int)), [])), (61, (.v (.int .i64 (wr.i64 (b85_ + 1))), []))], [(1, .cells [.sl (List.map GCell.c e79_.gCells), .sl (List.map cI.i64 e79_.gTrail)] []), (14, .map (mgk j84_) (mgv j84_))], []⟩ _ (by kernel_rfl) .nil ?_
                      exact ⟨_, Nat.lt_succ_self _, _, rfl, h87⟩
                  · refine Wc.condF h88 (by kernel_rfl) ?_
                    refine Wc.fix (st' := ⟨[(1, (.ptr 1 0, [])), (3, (.mp 14, [])), (16, (.v (.sl (List.map GCell.c e79_.gCells)), [])), (17, (.v (.int .i64 (e79_.gCells.length : Int)), [])), (18, (.v (.int .i64 b80_), []))], [(1, .cells [.sl (List.map GCell.c e79_.gCells), .sl (List.map cI.i64 e79_.gTrail)] []), (14, .map (mgk j84_) (mgv j84_))], []⟩) [] [1, 3, 16, 17, 18] [1, 14] [] (by kernel_rfl) ?_
                    refine Wc.exit ?_
                    obtain rfl := Option.some.inj h87
                    exact ⟨rfl, rfl⟩
              · rintro st ⟨rfl, rfl⟩
                refine Wc.region [] [] [1, 3, 16, 17, 18] [1, 14] [] ⟨[(1, (.ptr 1 0, [])), (3, (.mp 14, [])), (16, (.v (.sl (List.map GCell.c e79_.gCells)), [])), (17, (.v (.int .i64 (e79_.gCells.length : Int)), [])), (18, (.v (.int .i64 (wr.i64 (b80_ + 1))), []))], [(1, .cells [.sl (List.map GCell.c e79_.gCells), .sl (List.map cI.i64 e79_.gTrail)] []), (14, .map (mgk j84_) (mgv j84_))], []⟩ _ (by kernel_rfl) .nil ?_
                exact ⟨_, Nat.lt_succ_self _, _, _, rfl, h82⟩
        · refine Wc.condF h83 (by kernel_rfl) ?_
          refine Wc.fix (st' := ⟨[(1, (.ptr 1 0, []))], [(1, .cells [.sl (List.map GCell.c e79_.gCells), .sl (List.map cI.i64 e79_.gTrail)] [])], []⟩) [] [1] [1] [] (by kernel_rfl) ?_
          refine Wc.exit ?_
          obtain rfl := Option.some.inj h82
          exact ⟨rfl, rfl⟩
    · rintro st ⟨rfl, rfl⟩
      refine Wc.seq ?_
      refine Wc.seq ?_
      refine Wc.region [{}, {}, { v := some (.int .i64 (e79_.gTrail.length : Int)) }] [] [1, 72, 73, 74] [1] [] ⟨[(1, (.ptr 1 0, [])), (72, (.v (.sl (List.map cI.i64 e79_.gTrail)), [])), (73, (.v (.int .i64 (e79_.gTrail.length : Int)), [])), (74, (.v (.int .i64 0), []))], [(1, .cells [.sl (List.map GCell.c e79_.gCells), .sl (List.map cI.i64 e79_.gTrail)] [])], []⟩ _ (by kernel_rfl) (.cons (len_obl cI.i64 e79_.gTrail) .nil) ?_
      obtain ⟨out4, h100, h⟩ := obind h
      refine Wc.lastJ (fun st => out4 = .done () ∧ st = ⟨[], [], []⟩) ?_ ?_
      · refine Wc.block ?_
        refine Wc.loop (fun m st => ∃ (b90_ : Int), st = ⟨[(1, (.ptr 1 0, [])), (72, (.v (.sl (List.map cI.i64 e79_.gTrail)), [])), (73, (.v (.int .i64 (e79_.gTrail.length : Int)), [])), (74, (.v (.int .i64 b90_), []))], [(1, .cells [.sl (List.map GCell.c e79_.gCells), .sl (List.map cI.i64 e79_.gTrail)] [])], []⟩ ∧ pimpl_HeapOk_L4 k e79_ m b90_ = some out4) ?_ k ⟨_, rfl, h100⟩
        rintro m st ⟨b90_, rfl, h100⟩
        cases m with
        | zero => exact (onone h100).elim
        | succ m =>
          refine Wc.seq ?_
          refine Wc.region [] [] [1, 72, 73, 74, 75] [1] [] ⟨[(1, (.ptr 1 0, [])), (72, (.v (.sl (List.map cI.i64 e79_.gTrail)), [])), (73, (.v (.int .i64 (e79_.gTrail.length : Int)), [])), (74, (.v (.int .i64 b90_), [])), (75, (.v (.bool (decide (b90_ < (e79_.gTrail.length : Int)))), []))], [(1, .cells [.sl (List.map GCell.c e79_.gCells), .sl (List.map cI.i64 e79_.gTrail)] [])], []⟩ _ (by kernel_rfl) .nil ?_
          refine Wc.seq ?_
          rcases oif h100 with ⟨h101, h100⟩ | ⟨h101, h100⟩
          · refine Wc.condT h101 (by kernel_rfl) ?_
            refine Wc.fix (st' := ⟨[(1, (.ptr 1 0, [])), (72, (.v (.sl (List.map cI.i64 e79_.gTrail)), [])), (73, (.v (.int .i64 (e79_.gTrail.length : Int)), [])), (74, (.v (.int .i64 b90_), []))], [(1, .cells [.sl (List.map GCell.c e79_.gCells), .sl (List.map cI.i64 e79_.gTrail)] [])], []⟩) [] [1, 72, 73, 74] [1] [] (by kernel_rfl) ?_
            refine Wc.skip ?_
            refine Wc.seq ?_
            refine Wc.block ?_
            refine Wc.seq ?_
            obtain ⟨b91_, h102, h100⟩ := obind h100
            refine Wc.region [{ v := some (.vptr [.int .i64 b91_]) }] [] [1, 9, 72, 73, 74] [1] [] ⟨[(1, (.ptr 1 0, [])), (9, (.v (.int .i64 b91_), [])), (72, (.v (.sl (List.map cI.i64 e79_.gTrail)), [])), (73, (.v (.int .i64 (e79_.gTrail.length : Int)), [])), (74, (.v (.int .i64 b90_), []))], [(1, .cells [.sl (List.map GCell.c e79_.gCells), .sl (List.map cI.i64 e79_.gTrail)] [])], []⟩ _ (by kernel_rfl) (.cons (at_obl (c := cI.i64) rfl cI.i64_len h102) (.cons (len_ok 1 [.int .i64 b91_]) .nil)) ?_
            refine Wc.seq ?_
            obtain ⟨f92_, h103, h100⟩ := obind h100
            rcases oif h100 with ⟨h104, h100⟩ | ⟨h104, h100⟩
            · refine Wc.region [{}, {}, { r := some (.v (.bool f92_) []) }, {}, { re := some (.bool true) }] [] [1, 72, 73, 74, 90] [1] [] ⟨[(1, (.ptr 1 0, [])), (72, (.v (.sl (List.map cI.i64 e79_.gTrail)), [])), (73, (.v (.int .i64 (e79_.gTrail.length : Int)), [])), (74, (.v (.int .i64 b90_), [])), (90, (.v (.bool true), []))], [(1, .cells [.sl (List.map GCell.c e79_.gCells), .sl (List.map cI.i64 e79_.gTrail)] [])], []⟩ _ (by kernel_rfl) (.cons (cimpl_isCell h103) (.cons (congrArg AV.bool h104) .nil)) ?_
              refine Wc.condT rfl (by kernel_rfl) ?_
              refine Wc.seq ?_
              refine Wc.region [] [] [2] [] [] ⟨[(2, (.v (.bool false), []))], [], []⟩ _ (by kernel_rfl) .nil ?_
              refine Wc.ret ?_
              obtain rfl := Option.some.inj h100
              obtain rfl := Option.some.inj h
              exact ⟨.inl rfl, by kernel_rfl, by kernel_rfl⟩
            · obtain ⟨c93_, h105, h100⟩ := obind h100
              refine Wc.region [{}, {}, { r := some (.v (.bool f92_) []) }, {}, { re := some (.bool false) }, {}, {}, {}, { v := some (.vptr [.int .i64 c93_.gKind, .str c93_.gName, .int .i64 c93_.gNum, .int .i64 c93_.gTo, .sl (List.map cI.i64 c93_.gKids)]) }] [] [1, 72, 73, 74, 90] [1] [] ⟨[(1, (.ptr 1 0, [])), (72, (.v (.sl (List.map cI.i64 e79_.gTrail)), [])), (73, (.v (.int .i64 (e79_.gTrail.length : Int)), [])), (74, (.v (.int .i64 b90_), [])), (90, (.v (.bool (c93_.gKind != 1)), []))], [(1, .cells [.sl (List.map GCell.c e79_.gCells), .sl (List.map cI.i64 e79_.gTrail)] [])], []⟩ _ (by kernel_rfl) (.cons (cimpl_isCell h103) (.cons (congrArg AV.bool h104) (.cons (at_obl (c := GCell.c) (GCell.c_eq c93_) GCell.c_len h105) (.cons (len_ok 1 [.int .i64 c93_.gKind, .str c93_.gName, .int .i64 c93_.gNum, .int .i64 c93_.gTo, .sl (List.map cI.i64 c93_.gKids)]) .nil)))) ?_
              rcases oif h100 with ⟨h106, h100⟩ | ⟨h106, h100⟩
              · refine Wc.condT h106 (by kernel_rfl) ?_
                refine Wc.seq ?_
                refine Wc.region [] [] [2] [] [] ⟨[(2, (.v (.bool false), []))], [], []⟩ _ (by kernel_rfl) .nil ?_
                refine Wc.ret ?_
                obtain rfl := Option.some.inj h100
                obtain rfl := Option.some.inj h
                exact ⟨.inl rfl, by kernel_rfl, by kernel_rfl⟩
              · refine Wc.condF h106 (by kernel_rfl) ?_
                refine Wc.fix (st' := ⟨[(1, (.ptr 1 0, [])), (72, (.v (.sl (List.map cI.i64 e79_.gTrail)), [])), (73, (.v (.int .i64 (e79_.gTrail.length : Int)), [])), (74, (.v (.int .i64 b90_), []))], [(1, .cells [.sl (List.map GCell.c e79_.gCells), .sl (List.map cI.i64 e79_.gTrail)] [])], []⟩) [] [1, 72, 73, 74] [1] [] (by kernel_rfl) ?_
                refine Wc.skip ?_
                refine Wc.region [] [] [1, 72, 73, 74] [1] [] ⟨[(1, (.ptr 1 0, [])), (72, (.v (.sl (List.map cI.i64 e79_.gTrail)), [])), (73, (.v (.int .i64 (e79_.gTrail.length : Int)), [])), (74, (.v (.int .i64 (wr.i64 (b90_ + 1))), []))], [(1, .cells [.sl (List.map GCell.c e79_.gCells), .sl (List.map cI.i64 e79_.gTrail)] [])], []⟩ _ (by kernel_rfl) .nil ?_
                exact ⟨_, Nat.lt_succ_self _, _, rfl, h100⟩
          · refine Wc.condF h101 (by kernel_rfl) ?_
            refine Wc.fix (st' := ⟨[], [], []⟩) [] [] [] [] (by kernel_rfl) ?_
            refine Wc.exit ?_
            obtain rfl := Option.some.inj h100
            exact ⟨rfl, rfl⟩
      · rintro st ⟨rfl, rfl⟩
        refine Wc.seq ?_
        refine Wc.region [] [] [2] [] [] ⟨[(2, (.v (.bool true), []))], [], []⟩ _ (by kernel_rfl) .nil ?_
        refine Wc.ret ?_
        obtain rfl := Option.some.inj h
        exact ⟨.inl rfl, by kernel_rfl, by kernel_rfl⟩

def plaws_eqIntS_L1 (k : Nat) (a94_ : List Int) (a95_ : List Int) : Nat → Int → Option (Out Bool Unit)
  | 0, _ => none
  | m + 1, b96_ =>
    if (decide (b96_ < (a94_.length : Int))) = true then
      (at' a94_ b96_).bind fun b97_ =>
      (at' a95_ b96_).bind fun b98_ =>
      if (b97_ != b98_) = true then
        some (.ret false)
      else
        plaws_eqIntS_L1 k a94_ a95_ m (wr.i64 (b96_ + 1))
    else
      some (.done ())
/-- laws.eqIntS -/
def plaws_eqIntS (k : Nat) (a94_ : List Int) (a95_ : List Int) : Option Bool :=
  if ((a94_.length : Int) != (a95_.length : Int)) = true then
    some false
  else
    (plaws_eqIntS_L1 k a94_ a95_ k 0).bind fun out1 => match out1 with
    | .ret r => some r
    | .done () =>
      some true
theorem claws_eqIntS {k : Nat} {a94_ : List Int} {a95_ : List Int} {r : Bool} (h : plaws_eqIntS k a94_ a95_ = some r) : FnO Try.prog 54 [.v (.sl (List.map cI.i64 a94_)) [], .v (.sl (List.map cI.i64 a95_)) []] (.v (.bool r) []) [] := by
  refine FnO.of Try.func54 (rfl : Try.f54.body = some _) (Nat.le_of_ble_eq_true (by kernel_rfl)) (Nat.le_of_ble_eq_true (by kernel_rfl)) ?_
  intro w0 X0 Fin pv0 pb
  unfold plaws_eqIntS at h
  refine Wc.seq ?_
  refine Wc.region [] [] [0, 1] [] [] ⟨[(0, (.v (.sl (List.map cI.i64 a94_)), [])), (1, (.v (.sl (List.map cI.i64 a95_)), []))], [], []⟩ _ (by kernel_rfl) .nil ?_
  refine Wc.seq ?_
  refine Wc.seq ?_
  refine Wc.region [{}, { v := some (.int .i64 (a94_.length : Int)) }, {}, { v := some (.int .i64 (a95_.length : Int)) }] [] [0, 1, 10] [] [] ⟨[(0, (.v (.sl (List.map cI.i64 a94_)), [])), (1, (.v (.sl (List.map cI.i64 a95_)), [])), (10, (.v (.bool ((a94_.length : Int) != (a95_.length : Int))), []))], [], []⟩ _ (by kernel_rfl) (.cons (len_obl cI.i64 a94_) (.cons (len_obl cI.i64 a95_) .nil)) ?_
  rcases oif h with ⟨h107, h⟩ | ⟨h107, h⟩
  · refine Wc.condT h107 (by kernel_rfl) ?_
    refine Wc.seq ?_
    refine Wc.region [] [] [4] [] [] ⟨[(4, (.v (.bool false), []))], [], []⟩ _ (by kernel_rfl) .nil ?_
    refine Wc.ret ?_
    obtain rfl := Option.some.inj h
    exact ⟨.inl rfl, by kernel_rfl, by kernel_rfl⟩
  · refine Wc.condF h107 (by kernel_rfl) ?_
    refine Wc.fix (st' := ⟨[(0, (.v (.sl (List.map cI.i64 a94_)), [])), (1, (.v (.sl (List.map cI.i64 a95_)), []))], [], []⟩) [] [0, 1] [] [] (by kernel_rfl) ?_
    refine Wc.skip ?_
    refine Wc.seq ?_
    refine Wc.seq ?_
    refine Wc.region [] [] [0, 1, 5] [] [] ⟨[(0, (.v (.sl (List.map cI.i64 a94_)), [])), (1, (.v (.sl (List.map cI.i64 a95_)), [])), (5, (.v (.int .i64 0), []))], [], []⟩ _ (by kernel_rfl) .nil ?_
    obtain ⟨out1, h108, h⟩ := obind h
    refine Wc.lastJ (fun st => out1 = .done () ∧ st = ⟨[], [], []⟩) ?_ ?_
    · refine Wc.block ?_
      refine Wc.loop (fun m st => ∃ (b96_ : Int), st = ⟨[(0, (.v (.sl (List.map cI.i64 a94_)), [])), (1, (.v (.sl (List.map cI.i64 a95_)), [])), (5, (.v (.int .i64 b96_), []))], [], []⟩ ∧ plaws_eqIntS_L1 k a94_ a95_ m b96_ = some out1) ?_ k ⟨_, rfl, h108⟩
      rintro m st ⟨b96_, rfl, h108⟩
      cases m with
      | zero => exact (onone h108).elim
      | succ m =>
        refine Wc.seq ?_
        refine Wc.seq ?_
        refine Wc.region [{}, {}, { v := some (.int .i64 (a94_.length : Int)) }] [] [0, 1, 5, 14] [] [] ⟨[(0, (.v (.sl (List.map cI.i64 a94_)), [])), (1, (.v (.sl (List.map cI.i64 a95_)), [])), (5, (.v (.int .i64 b96_), [])), (14, (.v (.bool (decide (b96_ < (a94_.length : Int)))), []))], [], []⟩ _ (by kernel_rfl) (.cons (len_obl cI.i64 a94_) .nil) ?_
        rcases oif h108 with ⟨h109, h108⟩ | ⟨h109, h108⟩
        · refine Wc.condT h109 (by kernel_rfl) ?_
          refine Wc.fix (st' := ⟨[(0, (.v (.sl (List.map cI.i64 a94_)), [])), (1, (.v (.sl (List.map cI.i64 a95_)), [])), (5, (.v (.int .i64 b96_), []))], [], []⟩) [] [0, 1, 5] [] [] (by kernel_rfl) ?_
          refine Wc.skip ?_
          refine Wc.seq ?_
          refine Wc.block ?_
          refine Wc.seq ?_
          obtain ⟨b97_, h110, h108⟩ := obind h108
          obtain ⟨b98_, h111, h108⟩ := obind h108
          refine Wc.draw hmix [{}, {}, { v := some (.vptr [.int .i64 b97_]) }, {}, {}, {}, { v := some (.vptr [.int .i64 b98_]) }] [] [0, 1, 5, 25] [] [] ⟨[(0, (.v (.sl (List.map cI.i64 a94_)), [])), (1, (.v (.sl (List.map cI.i64 a95_)), [])), (5, (.v (.int .i64 b96_), [])), (25, (.v (.bool (b97_ != b98_)), []))], [], []⟩ _ (by kernel_rfl) (fun X => by kernel_rfl) (.cons (at_obl (c := cI.i64) rfl cI.i64_len h110) (.cons (len_ok 1 [.int .i64 b97_]) (.cons (at_obl (c := cI.i64) rfl cI.i64_len h111) (.cons (len_ok 1 [.int .i64 b98_]) .nil)))) ?_
          rcases oif h108 with ⟨h112, h108⟩ | ⟨h112, h108⟩
          · refine Wc.condT h112 (by kernel_rfl) ?_
            refine Wc.seq ?_
            refine Wc.region [] [] [4] [] [] ⟨[(4, (.v (.bool false), []))], [], []⟩ _ (by kernel_rfl) .nil ?_
            refine Wc.ret ?_
            obtain rfl := Option.some.inj h108
            obtain rfl := Option.some.inj h
            exact ⟨.inl rfl, by kernel_rfl, by kernel_rfl⟩
          · refine Wc.condF h112 (by kernel_rfl) ?_
            refine Wc.fix (st' := ⟨[(0, (.v (.sl (List.map cI.i64 a94_)), [])), (1, (.v (.sl (List.map cI.i64 a95_)), [])), (5, (.v (.int .i64 b96_), []))], [], []⟩) [] [0, 1, 5] [] [] (by kernel_rfl) ?_
            refine Wc.skip ?_
            refine Wc.region [] [] [0, 1, 5] [] [] ⟨[(0, (.v (.sl (List.map cI.i64 a94_)), [])), (1, (.v (.sl (List.map cI.i64 a95_)), [])), (5, (.v (.int .i64 (wr.i64 (b96_ + 1))), []))], [], []⟩ _ (by kernel_rfl) .nil ?_
            exact ⟨_, Nat.lt_succ_self _, _, rfl, h108⟩
        · refine Wc.condF h109 (by kernel_rfl) ?_
          refine Wc.fix (st' := ⟨[], [], []⟩) [] [] [] [] (by kernel_rfl) ?_
          refine Wc.exit ?_
          obtain rfl := Option.some.inj h108
          exact ⟨rfl, rfl⟩
    · rintro st ⟨rfl, rfl⟩
      refine Wc.seq ?_
      refine Wc.region [] [] [4] [] [] ⟨[(4, (.v (.bool true), []))], [], []⟩ _ (by kernel_rfl) .nil ?_
      refine Wc.ret ?_
      obtain rfl := Option.some.inj h
      exact ⟨.inl rfl, by kernel_rfl, by kernel_rfl⟩

/-- laws.eqCell -/
def plaws_eqCell (k : Nat) (c99_ : GCell) (c100_ : GCell) : Option Bool :=
  if (c99_.gKind != c100_.gKind) = true then
    some false
  else
    if (!(sEq c99_.gName c100_.gName)) = true then
      some false
    else
      if (c99_.gNum != c100_.gNum) = true then
        some false
      else
        if (c99_.gTo != c100_.gTo) = true then
          some false
        else
          (plaws_eqIntS k c99_.gKids c100_.gKids).bind fun f101_ =>
          if (!f101_) = true then
            some false
          else
            some true
theorem claws_eqCell {k : Nat} {c99_ : GCell} {c100_ : GCell} {r : Bool} (h : plaws_eqCell k c99_ c100_ = some r) : FnO Try.prog 87 [.v (.agg [.int .i64 c99_.gKind, .str c99_.gName, .int .i64 c99_.gNum, .int .i64 c99_.gTo, .sl (List.map cI.i64 c99_.gKids)]) [], .v (.agg [.int .i64 c100_.gKind, .str c100_.gName, .int .i64 c100_.gNum, .int .i64 c100_.gTo, .sl (List.map cI.i64 c100_.gKids)]) []] (.v (.bool r) []) [] := by
  refine FnO.of Try.func87 (rfl : Try.f87.body = some _) (Nat.le_of_ble_eq_true (by kernel_rfl)) (Nat.le_of_ble_eq_true (by kernel_rfl)) ?_
  intro w0 X0 Fin pv0 pb
  unfold plaws_eqCell at h
  refine Wc.seq ?_
  refine Wc.region [] [] [2, 3] [2, 3] [] ⟨[(2, (.ptr 2 0, [])), (3, (.ptr 3 0, []))], [(2, .cells [.int .i64 c99_.gKind, .str c99_.gName, .int .i64 c99_.gNum, .int .i64 c99_.gTo, .sl (List.map cI.i64 c99_.gKids)] []), (3, .cells [.int .i64 c100_.gKind, .str c100_.gName, .int .i64 c100_.gNum, .int .i64 c100_.gTo, .sl (List.map cI.i64 c100_.gKids)] [])], []⟩ _ (by kernel_rfl) .nil ?_
  refine Wc.seq ?_
  refine Wc.seq ?_
  refine Wc.region [] [] [2, 3, 9] [2, 3] [] ⟨[(2, (.ptr 2 0, [])), (3, (.ptr 3 0, [])), (9, (.v (.bool (c99_.gKind != c100_.gKind)), []))], [(2, .cells [.int .i64 c99_.gKind, .str c99_.gName, .int .i64 c99_.gNum, .int .i64 c99_.gTo, .sl (List.map cI.i64 c99_.gKids)] []), (3, .cells [.int .i64 c100_.gKind, .str c100_.gName, .int .i64 c100_.gNum, .int .i64 c100_.gTo, .sl (List.map cI.i64 c100_.gKids)] [])], []⟩ _ (by kernel_rfl) .nil ?_
  rcases oif h with ⟨h113, h⟩ | ⟨h113, h⟩
  · refine Wc.condT h113 (by kernel_rfl) ?_
    refine Wc.seq ?_
    refine Wc.region [] [] [4] [] [] ⟨[(4, (.v (.bool false), []))], [], []⟩ _ (by kernel_rfl) .nil ?_
    refine Wc.ret ?_
    obtain rfl := Option.some.inj h
    exact ⟨.inl rfl, by kernel_rfl, by kernel_rfl⟩
  · refine Wc.condF h113 (by kernel_rfl) ?_
    refine Wc.fix (st' := ⟨[(2, (.ptr 2 0, [])), (3, (.ptr 3 0, []))], [(2, .cells [.int .i64 c99_.gKind, .str c99_.gName, .int .i64 c99_.gNum, .int .i64 c99_.gTo, .sl (List.map cI.i64 c99_.gKids)] []), (3, .cells [.int .i64 c100_.gKind, .str c100_.gName, .int .i64 c100_.gNum, .int .i64 c100_.gTo, .sl (List.map cI.i64 c100_.gKids)] [])], []⟩) [] [2, 3] [2, 3] [] (by kernel_rfl) ?_
    refine Wc.skip ?_
    refine Wc.seq ?_
    refine Wc.seq ?_
    refine Wc.region [] [] [2, 3, 14] [2, 3] [] ⟨[(2, (.ptr 2 0, [])), (3, (.ptr 3 0, [])), (14, (.v (.bool (!(sEq c99_.gName c100_.gName))), []))], [(2, .cells [.int .i64 c99_.gKind, .str c99_.gName, .int .i64 c99_.gNum, .int .i64 c99_.gTo, .sl (List.map cI.i64 c99_.gKids)] []), (3, .cells [.int .i64 c100_.gKind, .str c100_.gName, .int .i64 c100_.gNum, .int .i64 c100_.gTo, .sl (List.map cI.i64 c100_.gKids)] [])], []⟩ _ (by kernel_rfl) .nil ?_
    rcases oif h with ⟨h114, h⟩ | ⟨h114, h⟩
    · refine Wc.condT h114 (by kernel_rfl) ?_
      refine Wc.seq ?_
      refine Wc.region [] [] [4] [] [] ⟨[(4, (.v (.bool false), []))], [], []⟩ _ (by kernel_rfl) .nil ?_
      refine Wc.ret ?_
      obtain rfl := Option.some.inj h
      exact ⟨.inl rfl, by kernel_rfl, by kernel_rfl⟩
    · refine Wc.condF h114 (by kernel_rfl) ?_
      refine Wc.fix (st' := ⟨[(2, (.ptr 2 0, [])), (3, (.ptr 3 0, []))], [(2, .cells [.int .i64 c99_.gKind, .str c99_.gName, .int .i64 c99_.gNum, .int .i64 c99_.gTo, .sl (List.map cI.i64 c99_.gKids)] []), (3, .cells [.int .i64 c100_.gKind, .str c100_.gName, .int .i64 c100_.gNum, .int .i64 c100_.gTo, .sl (List.map cI.i64 c100_.gKids)] [])], []⟩) [] [2, 3] [2, 3] [] (by kernel_rfl) ?_
      refine Wc.skip ?_
      refine Wc.seq ?_
      refine Wc.seq ?_
      refine Wc.region [] [] [2, 3, 19] [2, 3] [] ⟨[(2, (.ptr 2 0, [])), (3, (.ptr 3 0, [])), (19, (.v (.bool (c99_.gNum != c100_.gNum)), []))], [(2, .cells [.int .i64 c99_.gKind, .str c99_.gName, .int .i64 c99_.gNum, .int .i64 c99_.gTo, .sl (List.map cI.i64 c99_.gKids)] []), (3, .cells [.int .i64 c100_.gKind, .str c100_.gName, .int .i64 c100_.gNum, .int .i64 c100_.gTo, .sl (List.map cI.i64 c100_.gKids)] [])], []⟩ _ (by kernel_rfl) .nil ?_
      rcases oif h with ⟨h115, h⟩ | ⟨h115, h⟩
      · refine Wc.condT h115 (by kernel_rfl) ?_
        refine Wc.seq ?_
        refine Wc.region [] [] [4] [] [] ⟨[(4, (.v (.bool false), []))], [], []⟩ _ (by kernel_rfl) .nil ?_
        refine Wc.ret ?_
        obtain rfl := Option.some.inj h
        exact ⟨.inl rfl, by kernel_rfl, by kernel_rfl⟩
      · refine Wc.condF h115 (by kernel_rfl) ?_
        refine Wc.fix (st' := ⟨[(2, (.ptr 2 0, [])), (3, (.ptr 3 0, []))], [(2, .cells [.int .i64 c99_.gKind, .str c99_.gName, .int .i64 c99_.gNum, .int .i64 c99_.gTo, .sl (List.map cI.i64 c99_.gKids)] []), (3, .cells [.int .i64 c100_.gKind, .str c100_.gName, .int .i64 c100_.gNum, .int .i64 c100_.gTo, .sl (List.map cI.i64 c100_.gKids)] [])], []⟩) [] [2, 3] [2, 3] [] (by kernel_rfl) ?_
        refine Wc.skip ?_
        refine Wc.seq ?_
        refine Wc.seq ?_
        refine Wc.region [] [] [2, 3, 24] [2, 3] [] ⟨[(2, (.ptr 2 0, [])), (3, (.ptr 3 0, [])), (24, (.v (.bool (c99_.gTo != c100_.gTo)), []))], [(2, .cells [.int .i64 c99_.gKind, .str c99_.gName, .int .i64 c99_.gNum, .int .i64 c99_.gTo, .sl (List.map cI.i64 c99_.gKids)] []), (3, .cells [.int .i64 c100_.gKind, .str c100_.gName, .int .i64 c100_.gNum, .int .i64 c100_.gTo, .sl (List.map cI.i64 c100_.gKids)] [])], []⟩ _ (by kernel_rfl) .nil ?_
        rcases oif h with ⟨h116, h⟩ | ⟨h116, h⟩
        · refine Wc.condT h116 (by kernel_rfl) ?_
          refine Wc.seq ?_
          refine Wc.region [] [] [4] [] [] ⟨[(4, (.v (.bool false), []))], [], []⟩ _ (by kernel_rfl) .nil ?_
          refine Wc.ret ?_
          obtain rfl := Option.some.inj h
          exact ⟨.inl rfl, by kernel_rfl, by kernel_rfl⟩
        · refine Wc.condF h116 (by kernel_rfl) ?_
          refine Wc.fix (st' := ⟨[(2, (.ptr 2 0, [])), (3, (.ptr 3 0, []))], [(2, .cells [.int .i64 c99_.gKind, .str c99_.gName, .int .i64 c99_.gNum, .int .i64 c99_.gTo, .sl (List.map cI.i64 c99_.gKids)] []), (3, .cells [.int .i64 c100_.gKind, .str c100_.gName, .int .i64 c100_.gNum, .int .i64 c100_.gTo, .sl (List.map cI.i64 c100_.gKids)] [])], []⟩) [] [2, 3] [2, 3] [] (by kernel_rfl) ?_
          refine Wc.skip ?_
          refine Wc.seq ?_
          refine Wc.seq ?_
          obtain ⟨f101_, h117, h⟩ := obind h
          refine Wc.region [{}, {}, {}, {}, { r := some (.v (.bool f101_) []) }] [] [30] [] [] ⟨[(30, (.v (.bool (!f101_)), []))], [], []⟩ _ (by kernel_rfl) (.cons (claws_eqIntS h117) .nil) ?_
          rcases oif h with ⟨h118, h⟩ | ⟨h118, h⟩
          · refine Wc.condT h118 (by kernel_rfl) ?_
            refine Wc.seq ?_
            refine Wc.region [] [] [4] [] [] ⟨[(4, (.v (.bool false), []))], [], []⟩ _ (by kernel_rfl) .nil ?_
            refine Wc.ret ?_
            obtain rfl := Option.some.inj h
            exact ⟨.inl rfl, by kernel_rfl, by kernel_rfl⟩
          · refine Wc.condF h118 (by kernel_rfl) ?_
            refine Wc.fix (st' := ⟨[], [], []⟩) [] [] [] [] (by kernel_rfl) ?_
            refine Wc.skip ?_
            refine Wc.seq ?_
            refine Wc.region [] [] [4] [] [] ⟨[(4, (.v (.bool true), []))], [], []⟩ _ (by kernel_rfl) .nil ?_
            refine Wc.ret ?_
            obtain rfl := Option.some.inj h
            exact ⟨.inl rfl, by kernel_rfl, by kernel_rfl⟩

def plaws_eqCellS_L1 (k : Nat) (d102_ : List GCell) (d103_ : List GCell) : Nat → Int → Option (Out Bool Unit)
  | 0, _ => none
  | m + 1, b104_ =>
    if (decide (b104_ < (d102_.length : Int))) = true then
      (at' d102_ b104_).bind fun c105_ =>
      (at' d103_ b104_).bind fun c106_ =>
      (plaws_eqCell k c105_ c106_).bind fun f107_ =>
      if (!f107_) = true then
        some (.ret false)
      else
        plaws_eqCellS_L1 k d102_ d103_ m (wr.i64 (b104_ + 1))
    else
      some (.done ())
/-- laws.eqCellS -/
def plaws_eqCellS (k : Nat) (d102_ : List GCell) (d103_ : List GCell) : Option Bool :=
  if ((d102_.length : Int) != (d103_.length : Int)) = true then
    some false
  else
    (plaws_eqCellS_L1 k d102_ d103_ k 0).bind fun out1 => match out1 with
    | .ret r => some r
    | .done () =>
      some true
theorem claws_eqCellS {k : Nat} {d102_ : List GCell} {d103_ : List GCell} {r : Bool} (h : plaws_eqCellS k d102_ d103_ = some r) : FnO Try.prog 53 [.v (.sl (List.map GCell.c d102_)) [], .v (.sl (List.map GCell.c d103_)) []] (.v (.bool r) []) [] := by
  refine FnO.of Try.func53 (rfl : Try.f53.body = some _) (Nat.le_of_ble_eq_true (by kernel_rfl)) (Nat.le_of_ble_eq_true (by kernel_rfl)) ?_
  intro w0 X0 Fin pv0 pb
  unfold plaws_eqCellS at h
  refine Wc.seq ?_
  refine Wc.region [] [] [0, 1] [] [] ⟨[(0, (.v (.sl (List.map GCell.c d102_)), [])), (1, (.v (.sl (List.map GCell.c d103_)), []))], [], []⟩ _ (by kernel_rfl) .nil ?_
  refine Wc.seq ?_
  refine Wc.seq ?_
  refine Wc.region [{}, { v := some (.int .i64 (d102_.length : Int)) }, {}, { v := some (.int .i64 (d103_.length : Int)) }] [] [0, 1, 10] [] [] ⟨[(0, (.v (.sl (List.map GCell.c d102_)), [])), (1, (.v (.sl (List.map GCell.c d103_)), [])), (10, (.v (.bool ((d102_.length : Int) != (d103_.length : Int))), []))], [], []⟩ _ (by kernel_rfl) (.cons (len_obl GCell.c d102_) (.cons (len_obl GCell.c d103_) .nil)) ?_
  rcases oif h with ⟨h119, h⟩ | ⟨h119, h⟩
  · refine Wc.condT h119 (by kernel_rfl) ?_
    refine Wc.seq ?_
    refine Wc.region [] [] [4] [] [] ⟨[(4, (.v (.bool false), []))], [], []⟩ _ (by kernel_rfl) .nil ?_
    refine Wc.ret ?_
    obtain rfl := Option.some.inj h
    exact ⟨.inl rfl, by kernel_rfl, by kernel_rfl⟩
  · refine Wc.condF h119 (by kernel_rfl) ?_
    refine Wc.fix (st' := ⟨[(0, (.v (.sl (List.map GCell.c d102_)), [])), (1, (.v (.sl (List.map GCell.c d103_)), []))], [], []⟩) [] [0, 1] [] [] (by kernel_rfl) ?_
    refine Wc.skip ?_
    refine Wc.seq ?_
    refine Wc.seq ?_
    refine Wc.region [] [] [0, 1, 5] [] [] ⟨[(0, (.v (.sl (List.map GCell.c d102_)), [])), (1, (.v (.sl (List.map GCell.c d103_)), [])), (5, (.v (.int .i64 0), []))], [], []⟩ _ (by kernel_rfl) .nil ?_
    obtain ⟨out1, h120, h⟩ := obind h
    refine Wc.lastJ (fun st => out1 = .done () ∧ st = ⟨[], [], []⟩) ?_ ?_
    · refine Wc.block ?_
      refine Wc.loop (fun m st => ∃ (b104_ : Int), st = ⟨[(0, (.v (.sl (List.map GCell.c d102_)), [])), (1, (.v (.sl (List.map GCell.c d103_)), [])), (5, (.v (.int .i64 b104_), []))], [], []⟩ ∧ plaws_eqCellS_L1 k d102_ d103_ m b104_ = some out1) ?_ k ⟨_, rfl, h120⟩
      rintro m st ⟨b104_, rfl, h120⟩
      cases m with
      | zero => exact (onone h120).elim
      | succ m =>
        refine Wc.seq ?_
        refine Wc.seq ?_
        refine Wc.region [{}, {}, { v := some (.int .i64 (d102_.length : Int)) }] [] [0, 1, 5, 14] [] [] ⟨[(0, (.v (.sl (List.map GCell.c d102_)), [])), (1, (.v (.sl (List.map GCell.c d103_)), [])), (5, (.v (.int .i64 b104_), [])), (14, (.v (.bool (decide (b104_ < (d102_.length : Int)))), []))], [], []⟩ _ (by kernel_rfl) (.cons (len_obl GCell.c d102_) .nil) ?_
        rcases oif h120 with ⟨h121, h120⟩ | ⟨h121, h120⟩
        · refine Wc.condT h121 (by kernel_rfl) ?_
          refine Wc.fix (st' := ⟨[(0, (.v (.sl (List.map GCell.c d102_)), [])), (1, (.v (.sl (List.map GCell.c d103_)), [])), (5, (.v (.int .i64 b104_), []))], [], []⟩) [] [0, 1, 5] [] [] (by kernel_rfl) ?_
          refine Wc.skip ?_
          refine Wc.seq ?_
          refine Wc.block ?_
          refine Wc.seq ?_
          obtain ⟨c105_, h122, h120⟩ := obind h120
          obtain ⟨c106_, h123, h120⟩ := obind h120
          obtain ⟨f107_, h124, h120⟩ := obind h120
          refine Wc.draw hmix [{}, {}, { v := some (.vptr [.int .i64 c105_.gKind, .str c105_.gName, .int .i64 c105_.gNum, .int .i64 c105_.gTo, .sl (List.map cI.i64 c105_.gKids)]) }, {}, {}, {}, { v := some (.vptr [.int .i64 c106_.gKind, .str c106_.gName, .int .i64 c106_.gNum, .int .i64 c106_.gTo, .sl (List.map cI.i64 c106_.gKids)]) }, {}, { r := some (.v (.bool f107_) []) }] [] [0, 1, 5, 26] [] [] ⟨[(0, (.v (.sl (List.map GCell.c d102_)), [])), (1, (.v (.sl (List.map GCell.c d103_)), [])), (5, (.v (.int .i64 b104_), [])), (26, (.v (.bool (!f107_)), []))], [], []⟩ _ (by kernel_rfl) (fun X => by kernel_rfl) (.cons (at_obl (c := GCell.c) (GCell.c_eq c105_) GCell.c_len h122) (.cons (len_ok 5 [.int .i64 c105_.gKind, .str c105_.gName, .int .i64 c105_.gNum, .int .i64 c105_.gTo, .sl (List.map cI.i64 c105_.gKids)]) (.cons (at_obl (c := GCell.c) (GCell.c_eq c106_) GCell.c_len h123) (.cons (len_ok 5 [.int .i64 c106_.gKind, .str c106_.gName, .int .i64 c106_.gNum, .int .i64 c106_.gTo, .sl (List.map cI.i64 c106_.gKids)]) (.cons (claws_eqCell h124) .nil))))) ?_
          rcases oif h120 with ⟨h125, h120⟩ | ⟨h125, h120⟩
          · refine Wc.condT h125 (by kernel_rfl) ?_
            refine Wc.seq ?_
            refine Wc.region [] [] [4] [] [] ⟨[(4, (.v (.bool false), []))], [], []⟩ _ (by kernel_rfl) .nil ?_
            refine Wc.ret ?_
            obtain rfl := Option.some.inj h120
            obtain rfl := Option.some.inj h
            exact ⟨.inl rfl, by kernel_rfl, by kernel_rfl⟩
          · refine Wc.condF h125 (by kernel_rfl) ?_
            refine Wc.fix (st' := ⟨[(0, (.v (.sl (List.map GCell.c d102_)), [])), (1, (.v (.sl (List.map GCell.c d103_)), [])), (5, (.v (.int .i64 b104_), []))], [], []⟩) [] [0, 1, 5] [] [] (by kernel_rfl) ?_
            refine Wc.skip ?_
            refine Wc.region [] [] [0, 1, 5] [] [] ⟨[(0, (.v (.sl (List.map GCell.c d102_)), [])), (1, (.v (.sl (List.map GCell.c d103_)), [])), (5, (.v (.int .i64 (wr.i64 (b104_ + 1))), []))], [], []⟩ _ (by kernel_rfl) .nil ?_
            exact ⟨_, Nat.lt_succ_self _, _, rfl, h120⟩
        · refine Wc.condF h121 (by kernel_rfl) ?_
          refine Wc.fix (st' := ⟨[], [], []⟩) [] [] [] [] (by kernel_rfl) ?_
          refine Wc.exit ?_
          obtain rfl := Option.some.inj h120
          exact ⟨rfl, rfl⟩
    · rintro st ⟨rfl, rfl⟩
      refine Wc.seq ?_
      refine Wc.region [] [] [4] [] [] ⟨[(4, (.v (.bool true), []))], [], []⟩ _ (by kernel_rfl) .nil ?_
      refine Wc.ret ?_
      obtain rfl := Option.some.inj h
      exact ⟨.inl rfl, by kernel_rfl, by kernel_rfl⟩

/-- laws.eqHeap -/
def plaws_eqHeap (k : Nat) (e108_ : GHeap) (e109_ : GHeap) : Option Bool :=
  (plaws_eqCellS k e108_.gCells e109_.gCells).bind fun f110_ =>
  if (!f110_) = true then
    some false
  else
    (plaws_eqIntS k e108_.gTrail e109_.gTrail).bind fun f111_ =>
    if (!f111_) = true then
      some false
    else
      some true
theorem claws_eqHeap {k : Nat} {e108_ : GHeap} {e109_ : GHeap} {r : Bool} (h : plaws_eqHeap k e108_ e109_ = some r) : FnO Try.prog 13 [.v (.agg [.sl (List.map GCell.c e108_.gCells), .sl (List.map cI.i64 e108_.gTrail)]) [], .v (.agg [.sl (List.map GCell.c e109_.gCells), .sl (List.map cI.i64 e109_.gTrail)]) []] (.v (.bool r) []) [] := by
  refine FnO.of Try.func13 (rfl : Try.f13.body = some _) (Nat.le_of_ble_eq_true (by kernel_rfl)) (Nat.le_of_ble_eq_true (by kernel_rfl)) ?_
  intro w0 X0 Fin pv0 pb
  unfold plaws_eqHeap at h
  refine Wc.seq ?_
  refine Wc.region [] [] [2, 3] [2, 3] [] ⟨[(2, (.ptr 2 0, [])), (3, (.ptr 3 0, []))], [(2, .cells [.sl (List.map GCell.c e108_.gCells), .sl (List.map cI.i64 e108_.gTrail)] []), (3, .cells [.sl (List.map GCell.c e109_.gCells), .sl (List.map cI.i64 e109_.gTrail)] [])], []⟩ _ (by kernel_rfl) .nil ?_
  refine Wc.seq ?_
  refine Wc.seq ?_
  obtain ⟨f110_, h126, h⟩ := obind h
  refine Wc.region [{}, {}, {}, {}, { r := some (.v (.bool f110_) []) }] [] [2, 3, 10] [2, 3] [] ⟨[(2, (.ptr 2 0, [])), (3, (.ptr 3 0, [])), (10, (.v (.bool (!f110_)), []))], [(2, .cells [.sl (List.map GCell.c e108_.gCells), .sl (List.map cI.i64 e108_.gTrail)] []), (3, .cells [.sl (List.map GCell.c e109_.gCells), .sl (List.map cI.i64 e109_.gTrail)] [])], []⟩ _ (by kernel_rfl) (.cons (claws_eqCellS h126) .nil) ?_
  rcases oif h with ⟨h127, h⟩ | ⟨h127, h⟩
  · refine Wc.condT h127 (by kernel_rfl) ?_
    refine Wc.seq ?_
    refine Wc.region [] [] [4] [] [] ⟨[(4, (.v (.bool false), []))], [], []⟩ _ (by kernel_rfl) .nil ?_
    refine Wc.ret ?_
    obtain rfl := Option.some.inj h
    exact ⟨.inl rfl, by kernel_rfl, by kernel_rfl⟩
  · refine Wc.condF h127 (by kernel_rfl) ?_
    refine Wc.fix (st' := ⟨[(2, (.ptr 2 0, [])), (3, (.ptr 3 0, []))], [(2, .cells [.sl (List.map GCell.c e108_.gCells), .sl (List.map cI.i64 e108_.gTrail)] []), (3, .cells [.sl (List.map GCell.c e109_.gCells), .sl (List.map cI.i64 e109_.gTrail)] [])], []⟩) [] [2, 3] [2, 3] [] (by kernel_rfl) ?_
    refine Wc.skip ?_
    refine Wc.seq ?_
    refine Wc.seq ?_
    obtain ⟨f111_, h128, h⟩ := obind h
    refine Wc.region [{}, {}, {}, {}, { r := some (.v (.bool f111_) []) }] [] [16] [] [] ⟨[(16, (.v (.bool (!f111_)), []))], [], []⟩ _ (by kernel_rfl) (.cons (claws_eqIntS h128) .nil) ?_
    rcases oif h with ⟨h129, h⟩ | ⟨h129, h⟩
    · refine Wc.condT h129 (by kernel_rfl) ?_
      refine Wc.seq ?_
      refine Wc.region [] [] [4] [] [] ⟨[(4, (.v (.bool false), []))], [], []⟩ _ (by kernel_rfl) .nil ?_
      refine Wc.ret ?_
      obtain rfl := Option.some.inj h
      exact ⟨.inl rfl, by kernel_rfl, by kernel_rfl⟩
    · refine Wc.condF h129 (by kernel_rfl) ?_
      refine Wc.fix (st' := ⟨[], [], []⟩) [] [] [] [] (by kernel_rfl) ?_
      refine Wc.skip ?_
      refine Wc.seq ?_
      refine Wc.region [] [] [4] [] [] ⟨[(4, (.v (.bool true), []))], [], []⟩ _ (by kernel_rfl) .nil ?_
      refine Wc.ret ?_
      obtain rfl := Option.some.inj h
      exact ⟨.inl rfl, by kernel_rfl, by kernel_rfl⟩

/-- laws.FnExactHeapOk -/
def plaws_FnExactHeapOk (k : Nat) (e112_ : GHeap) : Option Bool :=
  (plaws_szHeap k e112_ 1048576).bind fun b113_ =>
  if (decide (b113_ < 0)) = true then
    some true
  else
    (plaws_toHeap k e112_).bind fun e114_ =>
    (pspec_HeapOk k e114_).bind fun f115_ =>
    (plaws_toHeap k e112_).bind fun e116_ =>
    (pimpl_HeapOk k e116_).bind fun f117_ =>
    if (!(f117_ == f115_)) = true then
      some false
    else
      (plaws_toHeap k e112_).bind fun e118_ =>
      (plaws_eqHeap k e116_ e118_).bind fun f119_ =>
      if (!f119_) = true then
        some false
      else
        some true
theorem claws_FnExactHeapOk {k : Nat} {e112_ : GHeap} {r : Bool} (h : plaws_FnExactHeapOk k e112_ = some r) : FnO Try.prog 3 [.v (.agg [.sl (List.map GCell.c e112_.gCells), .sl (List.map cI.i64 e112_.gTrail)]) []] (.v (.bool r) []) [] := by
  refine FnO.of Try.func3 (rfl : Try.f3.body = some _) (Nat.le_of_ble_eq_true (by kernel_rfl)) (Nat.le_of_ble_eq_true (by kernel_rfl)) ?_
  intro w0 X0 Fin pv0 pb
  unfold plaws_FnExactHeapOk at h
  refine Wc.seq ?_
  refine Wc.region [] [] [1] [1] [] ⟨[(1, (.ptr 1 0, []))], [(1, .cells [.sl (List.map GCell.c e112_.gCells), .sl (List.map cI.i64 e112_.gTrail)] [])], []⟩ _ (by kernel_rfl) .nil ?_
  refine Wc.seq ?_
  refine Wc.region [] [] [1, 3] [1] [] ⟨[(1, (.ptr 1 0, [])), (3, (.v (.int .i64 1048576), []))], [(1, .cells [.sl (List.map GCell.c e112_.gCells), .sl (List.map cI.i64 e112_.gTrail)] [])], []⟩ _ (by kernel_rfl) .nil ?_
  refine Wc.seq ?_
  obtain ⟨b113_, h130, h⟩ := obind h
  refine Wc.region [{}, {}, { r := some (.v (.int .i64 b113_) []) }] [] [1, 3] [1] [] ⟨[(1, (.ptr 1 0, [])), (3, (.v (.int .i64 b113_), []))], [(1, .cells [.sl (List.map GCell.c e112_.gCells), .sl (List.map cI.i64 e112_.gTrail)] [])], []⟩ _ (by kernel_rfl) (.cons (claws_szHeap h130) .nil) ?_
  refine Wc.seq ?_
  refine Wc.seq ?_
  refine Wc.region [] [] [1, 11] [1] [] ⟨[(1, (.ptr 1 0, [])), (11, (.v (.bool (decide (b113_ < 0))), []))], [(1, .cells [.sl (List.map GCell.c e112_.gCells), .sl (List.map cI.i64 e112_.gTrail)] [])], []⟩ _ (by kernel_rfl) .nil ?_
  rcases oif h with ⟨h131, h⟩ | ⟨h131, h⟩
  · refine Wc.condT h131 (by kernel_rfl) ?_
    refine Wc.seq ?_
    refine Wc.region [] [] [2] [] [] ⟨[(2, (.v (.bool true), []))], [], []⟩ _ (by kernel_rfl) .nil ?_
    refine Wc.ret ?_
    obtain rfl := Option.some.inj h
    exact ⟨.inl rfl, by kernel_rfl, by kernel_rfl⟩
  · refine Wc.condF h131 (by kernel_rfl) ?_
    refine Wc.fix (st' := ⟨[(1, (.ptr 1 0, []))], [(1, .cells [.sl (List.map GCell.c e112_.gCells), .sl (List.map cI.i64 e112_.gTrail)] [])], []⟩) [] [1] [1] [] (by kernel_rfl) ?_
    refine Wc.skip ?_
    refine Wc.seq ?_
    obtain ⟨e114_, h132, h⟩ := obind h
    obtain ⟨f115_, h133, h⟩ := obind h
    refine Wc.region [{}, { r := some (.v (.agg [.sl (List.map GCell.c e114_.gCells), .sl (List.map cI.i64 e114_.gTrail)]) []) }, { r := some (.v (.bool f115_) []) }] [] [1, 4] [1] [] ⟨[(1, (.ptr 1 0, [])), (4, (.v (.bool f115_), []))], [(1, .cells [.sl (List.map GCell.c e112_.gCells), .sl (List.map cI.i64 e112_.gTrail)] [])], []⟩ _ (by kernel_rfl) (.cons (claws_toHeap h132) (.cons (cspec_HeapOk h133) .nil)) ?_
    refine Wc.seq ?_
    obtain ⟨e116_, h134, h⟩ := obind h
    refine Wc.region [{}, { r := some (.v (.agg [.sl (List.map GCell.c e116_.gCells), .sl (List.map cI.i64 e116_.gTrail)]) []) }] [] [1, 4, 5] [1, 5] [] ⟨[(1, (.ptr 1 0, [])), (4, (.v (.bool f115_), [])), (5, (.ptr 5 0, []))], [(1, .cells [.sl (List.map GCell.c e112_.gCells), .sl (List.map cI.i64 e112_.gTrail)] []), (5, .cells [.sl (List.map GCell.c e116_.gCells), .sl (List.map cI.i64 e116_.gTrail)] [])], []⟩ _ (by kernel_rfl) (.cons (claws_toHeap h134) .nil) ?_
    refine Wc.seq ?_
    obtain ⟨f117_, h135, h⟩ := obind h
    refine Wc.region [{}, { r := some (.v (.bool f117_) []) }] [] [1, 4, 5, 6] [1, 5] [] ⟨[(1, (.ptr 1 0, [])), (4, (.v (.bool f115_), [])), (5, (.ptr 5 0, [])), (6, (.v (.bool f117_), []))], [(1, .cells [.sl (List.map GCell.c e112_.gCells), .sl (List.map cI.i64 e112_.gTrail)] []), (5, .cells [.sl (List.map GCell.c e116_.gCells), .sl (List.map cI.i64 e116_.gTrail)] [])], []⟩ _ (by kernel_rfl) (.cons (cimpl_HeapOk h135) .nil) ?_
    refine Wc.seq ?_
    refine Wc.seq ?_
    refine Wc.region [] [] [1, 5, 21] [1, 5] [] ⟨[(1, (.ptr 1 0, [])), (5, (.ptr 5 0, [])), (21, (.v (.bool (!(f117_ == f115_))), []))], [(1, .cells [.sl (List.map GCell.c e112_.gCells), .sl (List.map cI.i64 e112_.gTrail)] []), (5, .cells [.sl (List.map GCell.c e116_.gCells), .sl (List.map cI.i64 e116_.gTrail)] [])], []⟩ _ (by kernel_rfl) .nil ?_
    rcases oif h with ⟨h136, h⟩ | ⟨h136, h⟩
    · refine Wc.condT h136 (by kernel_rfl) ?_
      refine Wc.seq ?_
      refine Wc.region [] [] [2] [] [] ⟨[(2, (.v (.bool false), []))], [], []⟩ _ (by kernel_rfl) .nil ?_
      refine Wc.ret ?_
      obtain rfl := Option.some.inj h
      exact ⟨.inl rfl, by kernel_rfl, by kernel_rfl⟩
    · refine Wc.condF h136 (by kernel_rfl) ?_
      refine Wc.fix (st' := ⟨[(1, (.ptr 1 0, [])), (5, (.ptr 5 0, []))], [(1, .cells [.sl (List.map GCell.c e112_.gCells), .sl (List.map cI.i64 e112_.gTrail)] []), (5, .cells [.sl (List.map GCell.c e116_.gCells), .sl (List.map cI.i64 e116_.gTrail)] [])], []⟩) [] [1, 5] [1, 5] [] (by kernel_rfl) ?_
      refine Wc.skip ?_
      refine Wc.seq ?_
      refine Wc.seq ?_
      obtain ⟨e118_, h137, h⟩ := obind h
      obtain ⟨f119_, h138, h⟩ := obind h
      refine Wc.draw hmix [{}, {}, { r := some (.v (.agg [.sl (List.map GCell.c e118_.gCells), .sl (List.map cI.i64 e118_.gTrail)]) []) }, { r := some (.v (.bool f119_) []) }] [] [26] [] [] ⟨[(26, (.v (.bool (!f119_)), []))], [], []⟩ _ (by kernel_rfl) (fun X => by kernel_rfl) (.cons (claws_toHeap h137) (.cons (claws_eqHeap h138) .nil)) ?_
      rcases oif h with ⟨h139, h⟩ | ⟨h139, h⟩
      · refine Wc.condT h139 (by kernel_rfl) ?_
        refine Wc.seq ?_
        refine Wc.region [] [] [2] [] [] ⟨[(2, (.v (.bool false), []))], [], []⟩ _ (by kernel_rfl) .nil ?_
        refine Wc.ret ?_
        obtain rfl := Option.some.inj h
        exact ⟨.inl rfl, by kernel_rfl, by kernel_rfl⟩
      · refine Wc.condF h139 (by kernel_rfl) ?_
        refine Wc.fix (st' := ⟨[], [], []⟩) [] [] [] [] (by kernel_rfl) ?_
        refine Wc.skip ?_
        refine Wc.seq ?_
        refine Wc.region [] [] [2] [] [] ⟨[(2, (.v (.bool true), []))], [], []⟩ _ (by kernel_rfl) .nil ?_
        refine Wc.ret ?_
        obtain rfl := Option.some.inj h
        exact ⟨.inl rfl, by kernel_rfl, by kernel_rfl⟩
end Go.Proofs.Ytjgagbajgdmocaa

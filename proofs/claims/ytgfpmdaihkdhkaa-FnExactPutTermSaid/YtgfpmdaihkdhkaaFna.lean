/- What the functions do, part 1. -/
import Derived.Test.YtgfpmdaihkdhkaaTy
set_option linter.unusedVariables false
set_option linter.unusedSimpArgs false
namespace Go.Proofs.Ytgfpmdaihkdhkaa
open Go.RowKit Go.Bv
/-- laws.szIntS -/
def plaws_szIntS (k : Nat) (a1_ : List Int) (b2_ : Int) : Option Int :=
  if (decide ((wr.i64 (b2_ - (a1_.length : Int))) < 0)) = true then
    some (-1)
  else
    some (wr.i64 (b2_ - (a1_.length : Int)))
theorem claws_szIntS {k : Nat} {a1_ : List Int} {b2_ : Int} {r : Int} (h : plaws_szIntS k a1_ b2_ = some r) : FnO Try.prog 64 [.v (.sl (List.map cI.i64 a1_)) [], .v (.int .i64 b2_) []] (.v (.int .i64 r) []) [] := by
  refine FnO.of Try.func64 (rfl : Try.f64.body = some _) (Nat.le_of_ble_eq_true (by kernel_rfl)) (Nat.le_of_ble_eq_true (by kernel_rfl)) ?_
  intro w0 X0 Fin pv0 pb
  unfold plaws_szIntS at h
  refine Wc.seq ?_
  refine Wc.region [] [] [0, 1] [] [] ⟨[(0, (.v (.sl (List.map cI.i64 a1_)), [])), (1, (.v (.int .i64 b2_), []))], [], []⟩ _ (by kernel_rfl) .nil ?_
  refine Wc.seq ?_
  refine Wc.region [{}, {}, { v := some (.int .i64 (a1_.length : Int)) }] [] [1] [] [] ⟨[(1, (.v (.int .i64 (wr.i64 (b2_ - (a1_.length : Int)))), []))], [], []⟩ _ (by kernel_rfl) (.cons (len_obl cI.i64 a1_) .nil) ?_
  refine Wc.seq ?_
  refine Wc.seq ?_
  refine Wc.region [] [] [1, 10] [] [] ⟨[(1, (.v (.int .i64 (wr.i64 (b2_ - (a1_.length : Int)))), [])), (10, (.v (.bool (decide ((wr.i64 (b2_ - (a1_.length : Int))) < 0))), []))], [], []⟩ _ (by kernel_rfl) .nil ?_
  rcases oif h with ⟨h1, h⟩ | ⟨h1, h⟩
  · refine Wc.condT h1 (by kernel_rfl) ?_
    refine Wc.seq ?_
    refine Wc.region [] [] [4] [] [] ⟨[(4, (.v (.int .i64 (-1)), []))], [], []⟩ _ (by kernel_rfl) .nil ?_
    refine Wc.ret ?_
    obtain rfl := Option.some.inj h
    exact ⟨.inl rfl, by kernel_rfl, by kernel_rfl⟩
  · refine Wc.condF h1 (by kernel_rfl) ?_
    refine Wc.fix (st' := ⟨[(1, (.v (.int .i64 (wr.i64 (b2_ - (a1_.length : Int)))), []))], [], []⟩) [] [1] [] [] (by kernel_rfl) ?_
    refine Wc.skip ?_
    refine Wc.seq ?_
    refine Wc.region [] [] [4] [] [] ⟨[(4, (.v (.int .i64 (wr.i64 (b2_ - (a1_.length : Int)))), []))], [], []⟩ _ (by kernel_rfl) .nil ?_
    refine Wc.ret ?_
    obtain rfl := Option.some.inj h
    exact ⟨.inl rfl, by kernel_rfl, by kernel_rfl⟩

/-- laws.szCell -/
def plaws_szCell (k : Nat) (c3_ : GCell) (b4_ : Int) : Option Int :=
  if (decide ((wr.i64 (b4_ - (c3_.gName.size : Int))) < 0)) = true then
    some (-1)
  else
    (plaws_szIntS k c3_.gKids (wr.i64 (b4_ - (c3_.gName.size : Int)))).bind fun b5_ =>
    if (decide (b5_ < 0)) = true then
      some (-1)
    else
      some b5_
theorem claws_szCell {k : Nat} {c3_ : GCell} {b4_ : Int} {r : Int} (h : plaws_szCell k c3_ b4_ = some r) : FnO Try.prog 109 [.v (.agg [.int .i64 c3_.gKind, .str c3_.gName, .int .i64 c3_.gNum, .int .i64 c3_.gTo, .sl (List.map cI.i64 c3_.gKids)]) [], .v (.int .i64 b4_) []] (.v (.int .i64 r) []) [] := by
  refine FnO.of Try.func109 (rfl : Try.f109.body = some _) (Nat.le_of_ble_eq_true (by kernel_rfl)) (Nat.le_of_ble_eq_true (by kernel_rfl)) ?_
  intro w0 X0 Fin pv0 pb
  unfold plaws_szCell at h
  refine Wc.seq ?_
  refine Wc.region [] [] [1, 2] [2] [] ⟨[(1, (.v (.int .i64 b4_), [])), (2, (.ptr 2 0, []))], [(2, .cells [.int .i64 c3_.gKind, .str c3_.gName, .int .i64 c3_.gNum, .int .i64 c3_.gTo, .sl (List.map cI.i64 c3_.gKids)] [])], []⟩ _ (by kernel_rfl) .nil ?_
  refine Wc.seq ?_
  refine Wc.region [] [] [1, 2] [2] [] ⟨[(1, (.v (.int .i64 (wr.i64 (b4_ - (c3_.gName.size : Int)))), [])), (2, (.ptr 2 0, []))], [(2, .cells [.int .i64 c3_.gKind, .str c3_.gName, .int .i64 c3_.gNum, .int .i64 c3_.gTo, .sl (List.map cI.i64 c3_.gKids)] [])], []⟩ _ (by kernel_rfl) .nil ?_
  refine Wc.seq ?_
  refine Wc.seq ?_
  refine Wc.region [] [] [1, 2, 11] [2] [] ⟨[(1, (.v (.int .i64 (wr.i64 (b4_ - (c3_.gName.size : Int)))), [])), (2, (.ptr 2 0, [])), (11, (.v (.bool (decide ((wr.i64 (b4_ - (c3_.gName.size : Int))) < 0))), []))], [(2, .cells [.int .i64 c3_.gKind, .str c3_.gName, .int .i64 c3_.gNum, .int .i64 c3_.gTo, .sl (List.map cI.i64 c3_.gKids)] [])], []⟩ _ (by kernel_rfl) .nil ?_
  rcases oif h with ⟨h2, h⟩ | ⟨h2, h⟩
  · refine Wc.condT h2 (by kernel_rfl) ?_
    refine Wc.seq ?_
    refine Wc.region [] [] [4] [] [] ⟨[(4, (.v (.int .i64 (-1)), []))], [], []⟩ _ (by kernel_rfl) .nil ?_
    refine Wc.ret ?_
    obtain rfl := Option.some.inj h
    exact ⟨.inl rfl, by kernel_rfl, by kernel_rfl⟩
  · refine Wc.condF h2 (by kernel_rfl) ?_
    refine Wc.fix (st' := ⟨[(1, (.v (.int .i64 (wr.i64 (b4_ - (c3_.gName.size : Int)))), [])), (2, (.ptr 2 0, []))], [(2, .cells [.int .i64 c3_.gKind, .str c3_.gName, .int .i64 c3_.gNum, .int .i64 c3_.gTo, .sl (List.map cI.i64 c3_.gKids)] [])], []⟩) [] [1, 2] [2] [] (by kernel_rfl) ?_
    refine Wc.skip ?_
    refine Wc.seq ?_
    obtain ⟨b5_, h3, h⟩ := obind h
    refine Wc.region [{}, {}, {}, { r := some (.v (.int .i64 b5_) []) }] [] [1] [] [] ⟨[(1, (.v (.int .i64 b5_), []))], [], []⟩ _ (by kernel_rfl) (.cons (claws_szIntS h3) .nil) ?_
    refine Wc.seq ?_
    refine Wc.seq ?_
    refine Wc.region [] [] [1, 17] [] [] ⟨[(1, (.v (.int .i64 b5_), [])), (17, (.v (.bool (decide (b5_ < 0))), []))], [], []⟩ _ (by kernel_rfl) .nil ?_
    rcases oif h with ⟨h4, h⟩ | ⟨h4, h⟩
    · refine Wc.condT h4 (by kernel_rfl) ?_
      refine Wc.seq ?_
      refine Wc.region [] [] [4] [] [] ⟨[(4, (.v (.int .i64 (-1)), []))], [], []⟩ _ (by kernel_rfl) .nil ?_
      refine Wc.ret ?_
      obtain rfl := Option.some.inj h
      exact ⟨.inl rfl, by kernel_rfl, by kernel_rfl⟩
    · refine Wc.condF h4 (by kernel_rfl) ?_
      refine Wc.fix (st' := ⟨[(1, (.v (.int .i64 b5_), []))], [], []⟩) [] [1] [] [] (by kernel_rfl) ?_
      refine Wc.skip ?_
      refine Wc.seq ?_
      refine Wc.region [] [] [4] [] [] ⟨[(4, (.v (.int .i64 b5_), []))], [], []⟩ _ (by kernel_rfl) .nil ?_
      refine Wc.ret ?_
      obtain rfl := Option.some.inj h
      exact ⟨.inl rfl, by kernel_rfl, by kernel_rfl⟩

def plaws_szCellS_L1 (k : Nat) (d6_ : List GCell) : Nat → Int → Int → Option (Out Int Int)
  | 0, _, _ => none
  | m + 1, b8_, b9_ =>
    if (decide (b9_ < (d6_.length : Int))) = true then
      (at' d6_ b9_).bind fun c11_ =>
      (plaws_szCell k c11_ b8_).bind fun b12_ =>
      if (decide (b12_ < 0)) = true then
        some (.ret (-1))
      else
        plaws_szCellS_L1 k d6_ m b12_ (wr.i64 (b9_ + 1))
    else
      some (.done b8_)
/-- laws.szCellS -/
def plaws_szCellS (k : Nat) (d6_ : List GCell) (b7_ : Int) : Option Int :=
  if (decide ((wr.i64 (b7_ - (d6_.length : Int))) < 0)) = true then
    some (-1)
  else
    (plaws_szCellS_L1 k d6_ k (wr.i64 (b7_ - (d6_.length : Int))) 0).bind fun out1 => match out1 with
    | .ret r => some r
    | .done b10_ =>
      some b10_
theorem claws_szCellS {k : Nat} {d6_ : List GCell} {b7_ : Int} {r : Int} (h : plaws_szCellS k d6_ b7_ = some r) : FnO Try.prog 63 [.v (.sl (List.map GCell.c d6_)) [], .v (.int .i64 b7_) []] (.v (.int .i64 r) []) [] := by
  refine FnO.of Try.func63 (rfl : Try.f63.body = some _) (Nat.le_of_ble_eq_true (by kernel_rfl)) (Nat.le_of_ble_eq_true (by kernel_rfl)) ?_
  intro w0 X0 Fin pv0 pb
  unfold plaws_szCellS at h
  refine Wc.seq ?_
  refine Wc.region [] [] [0, 1] [] [] ⟨[(0, (.v (.sl (List.map GCell.c d6_)), [])), (1, (.v (.int .i64 b7_), []))], [], []⟩ _ (by kernel_rfl) .nil ?_
  refine Wc.seq ?_
  refine Wc.region [{}, {}, { v := some (.int .i64 (d6_.length : Int)) }] [] [0, 1] [] [] ⟨[(0, (.v (.sl (List.map GCell.c d6_)), [])), (1, (.v (.int .i64 (wr.i64 (b7_ - (d6_.length : Int)))), []))], [], []⟩ _ (by kernel_rfl) (.cons (len_obl GCell.c d6_) .nil) ?_
  refine Wc.seq ?_
  refine Wc.seq ?_
  refine Wc.region [] [] [0, 1, 11] [] [] ⟨[(0, (.v (.sl (List.map GCell.c d6_)), [])), (1, (.v (.int .i64 (wr.i64 (b7_ - (d6_.length : Int)))), [])), (11, (.v (.bool (decide ((wr.i64 (b7_ - (d6_.length : Int))) < 0))), []))], [], []⟩ _ (by kernel_rfl) .nil ?_
  rcases oif h with ⟨h5, h⟩ | ⟨h5, h⟩
  · refine Wc.condT h5 (by kernel_rfl) ?_
    refine Wc.seq ?_
    refine Wc.region [] [] [4] [] [] ⟨[(4, (.v (.int .i64 (-1)), []))], [], []⟩ _ (by kernel_rfl) .nil ?_
    refine Wc.ret ?_
    obtain rfl := Option.some.inj h
    exact ⟨.inl rfl, by kernel_rfl, by kernel_rfl⟩
  · refine Wc.condF h5 (by kernel_rfl) ?_
    refine Wc.fix (st' := ⟨[(0, (.v (.sl (List.map GCell.c d6_)), [])), (1, (.v (.int .i64 (wr.i64 (b7_ - (d6_.length : Int)))), []))], [], []⟩) [] [0, 1] [] [] (by kernel_rfl) ?_
    refine Wc.skip ?_
    refine Wc.seq ?_
    refine Wc.seq ?_
    refine Wc.region [] [] [0, 1, 5] [] [] ⟨[(0, (.v (.sl (List.map GCell.c d6_)), [])), (1, (.v (.int .i64 (wr.i64 (b7_ - (d6_.length : Int)))), [])), (5, (.v (.int .i64 0), []))], [], []⟩ _ (by kernel_rfl) .nil ?_
    obtain ⟨out1, h6, h⟩ := obind h
    refine Wc.lastJ (fun st => ∃ (b10_ : Int), out1 = .done b10_ ∧ st = ⟨[(1, (.v (.int .i64 b10_), []))], [], []⟩) ?_ ?_
    · refine Wc.block ?_
      refine Wc.loop (fun m st => ∃ (b8_ : Int) (b9_ : Int), st = ⟨[(0, (.v (.sl (List.map GCell.c d6_)), [])), (1, (.v (.int .i64 b8_), [])), (5, (.v (.int .i64 b9_), []))], [], []⟩ ∧ plaws_szCellS_L1 k d6_ m b8_ b9_ = some out1) ?_ k ⟨_, _, rfl, h6⟩
      rintro m st ⟨b8_, b9_, rfl, h6⟩
      cases m with
      | zero => exact (onone h6).elim
      | succ m =>
        refine Wc.seq ?_
        refine Wc.seq ?_
        refine Wc.region [{}, {}, { v := some (.int .i64 (d6_.length : Int)) }] [] [0, 1, 5, 15] [] [] ⟨[(0, (.v (.sl (List.map GCell.c d6_)), [])), (1, (.v (.int .i64 b8_), [])), (5, (.v (.int .i64 b9_), [])), (15, (.v (.bool (decide (b9_ < (d6_.length : Int)))), []))], [], []⟩ _ (by kernel_rfl) (.cons (len_obl GCell.c d6_) .nil) ?_
        rcases oif h6 with ⟨h7, h6⟩ | ⟨h7, h6⟩
        · refine Wc.condT h7 (by kernel_rfl) ?_
          refine Wc.fix (st' := ⟨[(0, (.v (.sl (List.map GCell.c d6_)), [])), (1, (.v (.int .i64 b8_), [])), (5, (.v (.int .i64 b9_), []))], [], []⟩) [] [0, 1, 5] [] [] (by kernel_rfl) ?_
          refine Wc.skip ?_
          refine Wc.seq ?_
          refine Wc.block ?_
          refine Wc.seq ?_
          obtain ⟨c11_, h8, h6⟩ := obind h6
          obtain ⟨b12_, h9, h6⟩ := obind h6
          refine Wc.region [{}, {}, { v := some (.vptr [.int .i64 c11_.gKind, .str c11_.gName, .int .i64 c11_.gNum, .int .i64 c11_.gTo, .sl (List.map cI.i64 c11_.gKids)]) }, {}, {}, { r := some (.v (.int .i64 b12_) []) }] [] [0, 1, 5] [] [] ⟨[(0, (.v (.sl (List.map GCell.c d6_)), [])), (1, (.v (.int .i64 b12_), [])), (5, (.v (.int .i64 b9_), []))], [], []⟩ _ (by kernel_rfl) (.cons (at_obl (c := GCell.c) (GCell.c_eq c11_) GCell.c_len h8) (.cons (len_ok 5 [.int .i64 c11_.gKind, .str c11_.gName, .int .i64 c11_.gNum, .int .i64 c11_.gTo, .sl (List.map cI.i64 c11_.gKids)]) (.cons (claws_szCell h9) .nil))) ?_
          refine Wc.seq ?_
          refine Wc.region [] [] [0, 1, 5, 25] [] [] ⟨[(0, (.v (.sl (List.map GCell.c d6_)), [])), (1, (.v (.int .i64 b12_), [])), (5, (.v (.int .i64 b9_), [])), (25, (.v (.bool (decide (b12_ < 0))), []))], [], []⟩ _ (by kernel_rfl) .nil ?_
          rcases oif h6 with ⟨h10, h6⟩ | ⟨h10, h6⟩
          · refine Wc.condT h10 (by kernel_rfl) ?_
            refine Wc.seq ?_
            refine Wc.region [] [] [4] [] [] ⟨[(4, (.v (.int .i64 (-1)), []))], [], []⟩ _ (by kernel_rfl) .nil ?_
            refine Wc.ret ?_
            obtain rfl := Option.some.inj h6
            obtain rfl := Option.some.inj h
            exact ⟨.inl rfl, by kernel_rfl, by kernel_rfl⟩
          · refine Wc.condF h10 (by kernel_rfl) ?_
            refine Wc.fix (st' := ⟨[(0, (.v (.sl (List.map GCell.c d6_)), [])), (1, (.v (.int .i64 b12_), [])), (5, (.v (.int .i64 b9_), []))], [], []⟩) [] [0, 1, 5] [] [] (by kernel_rfl) ?_
            refine Wc.skip ?_
            refine Wc.region [] [] [0, 1, 5] [] [] ⟨[(0, (.v (.sl (List.map GCell.c d6_)), [])), (1, (.v (.int .i64 b12_), [])), (5, (.v (.int .i64 (wr.i64 (b9_ + 1))), []))], [], []⟩ _ (by kernel_rfl) .nil ?_
            exact ⟨_, Nat.lt_succ_self _, _, _, rfl, h6⟩
        · refine Wc.condF h7 (by kernel_rfl) ?_
          refine Wc.fix (st' := ⟨[(1, (.v (.int .i64 b8_), []))], [], []⟩) [] [1] [] [] (by kernel_rfl) ?_
          refine Wc.exit ?_
          obtain rfl := Option.some.inj h6
          exact ⟨_, rfl, rfl⟩
    · rintro st ⟨b10_, rfl, rfl⟩
      refine Wc.seq ?_
      refine Wc.region [] [] [4] [] [] ⟨[(4, (.v (.int .i64 b10_), []))], [], []⟩ _ (by kernel_rfl) .nil ?_
      refine Wc.ret ?_
      obtain rfl := Option.some.inj h
      exact ⟨.inl rfl, by kernel_rfl, by kernel_rfl⟩

/-- laws.szHeap -/
def plaws_szHeap (k : Nat) (e13_ : GHeap) (b14_ : Int) : Option Int :=
  (plaws_szCellS k e13_.gCells b14_).bind fun b15_ =>
  if (decide (b15_ < 0)) = true then
    some (-1)
  else
    (plaws_szIntS k e13_.gTrail b15_).bind fun b16_ =>
    if (decide (b16_ < 0)) = true then
      some (-1)
    else
      some b16_
theorem claws_szHeap {k : Nat} {e13_ : GHeap} {b14_ : Int} {r : Int} (h : plaws_szHeap k e13_ b14_ = some r) : FnO Try.prog 16 [.v (.agg [.sl (List.map GCell.c e13_.gCells), .sl (List.map cI.i64 e13_.gTrail)]) [], .v (.int .i64 b14_) []] (.v (.int .i64 r) []) [] := by
  refine FnO.of Try.func16 (rfl : Try.f16.body = some _) (Nat.le_of_ble_eq_true (by kernel_rfl)) (Nat.le_of_ble_eq_true (by kernel_rfl)) ?_
  intro w0 X0 Fin pv0 pb
  unfold plaws_szHeap at h
  refine Wc.seq ?_
  refine Wc.region [] [] [1, 2] [2] [] ⟨[(1, (.v (.int .i64 b14_), [])), (2, (.ptr 2 0, []))], [(2, .cells [.sl (List.map GCell.c e13_.gCells), .sl (List.map cI.i64 e13_.gTrail)] [])], []⟩ _ (by kernel_rfl) .nil ?_
  refine Wc.seq ?_
  obtain ⟨b15_, h11, h⟩ := obind h
  refine Wc.region [{}, {}, {}, { r := some (.v (.int .i64 b15_) []) }] [] [1, 2] [2] [] ⟨[(1, (.v (.int .i64 b15_), [])), (2, (.ptr 2 0, []))], [(2, .cells [.sl (List.map GCell.c e13_.gCells), .sl (List.map cI.i64 e13_.gTrail)] [])], []⟩ _ (by kernel_rfl) (.cons (claws_szCellS h11) .nil) ?_
  refine Wc.seq ?_
  refine Wc.seq ?_
  refine Wc.region [] [] [1, 2, 10] [2] [] ⟨[(1, (.v (.int .i64 b15_), [])), (2, (.ptr 2 0, [])), (10, (.v (.bool (decide (b15_ < 0))), []))], [(2, .cells [.sl (List.map GCell.c e13_.gCells), .sl (List.map cI.i64 e13_.gTrail)] [])], []⟩ _ (by kernel_rfl) .nil ?_
  rcases oif h with ⟨h12, h⟩ | ⟨h12, h⟩
  · refine Wc.condT h12 (by kernel_rfl) ?_
    refine Wc.seq ?_
    refine Wc.region [] [] [4] [] [] ⟨[(4, (.v (.int .i64 (-1)), []))], [], []⟩ _ (by kernel_rfl) .nil ?_
    refine Wc.ret ?_
    obtain rfl := Option.some.inj h
    exact ⟨.inl rfl, by kernel_rfl, by kernel_rfl⟩
  · refine Wc.condF h12 (by kernel_rfl) ?_
    refine Wc.fix (st' := ⟨[(1, (.v (.int .i64 b15_), [])), (2, (.ptr 2 0, []))], [(2, .cells [.sl (List.map GCell.c e13_.gCells), .sl (List.map cI.i64 e13_.gTrail)] [])], []⟩) [] [1, 2] [2] [] (by kernel_rfl) ?_
    refine Wc.skip ?_
    refine Wc.seq ?_
    obtain ⟨b16_, h13, h⟩ := obind h
    refine Wc.region [{}, {}, {}, { r := some (.v (.int .i64 b16_) []) }] [] [1] [] [] ⟨[(1, (.v (.int .i64 b16_), []))], [], []⟩ _ (by kernel_rfl) (.cons (claws_szIntS h13) .nil) ?_
    refine Wc.seq ?_
    refine Wc.seq ?_
    refine Wc.region [] [] [1, 16] [] [] ⟨[(1, (.v (.int .i64 b16_), [])), (16, (.v (.bool (decide (b16_ < 0))), []))], [], []⟩ _ (by kernel_rfl) .nil ?_
    rcases oif h with ⟨h14, h⟩ | ⟨h14, h⟩
    · refine Wc.condT h14 (by kernel_rfl) ?_
      refine Wc.seq ?_
      refine Wc.region [] [] [4] [] [] ⟨[(4, (.v (.int .i64 (-1)), []))], [], []⟩ _ (by kernel_rfl) .nil ?_
      refine Wc.ret ?_
      obtain rfl := Option.some.inj h
      exact ⟨.inl rfl, by kernel_rfl, by kernel_rfl⟩
    · refine Wc.condF h14 (by kernel_rfl) ?_
      refine Wc.fix (st' := ⟨[(1, (.v (.int .i64 b16_), []))], [], []⟩) [] [1] [] [] (by kernel_rfl) ?_
      refine Wc.skip ?_
      refine Wc.seq ?_
      refine Wc.region [] [] [4] [] [] ⟨[(4, (.v (.int .i64 b16_), []))], [], []⟩ _ (by kernel_rfl) .nil ?_
      refine Wc.ret ?_
      obtain rfl := Option.some.inj h
      exact ⟨.inl rfl, by kernel_rfl, by kernel_rfl⟩

def plaws_toIntS_L1 (k : Nat) (a17_ : List Int) : Nat → (List Int) → Int → Option (Out (List Int) (List Int))
  | 0, _, _ => none
  | m + 1, a18_, b19_ =>
    if (decide (b19_ < (a17_.length : Int))) = true then
      (at' a17_ b19_).bind fun b21_ =>
      (at' a18_ b19_).bind fun b22_ =>
      plaws_toIntS_L1 k a17_ m (a18_.set ((b19_).toNat) b21_) (wr.i64 (b19_ + 1))
    else
      some (.done a18_)
/-- laws.toIntS -/
def plaws_toIntS (k : Nat) (a17_ : List Int) : Option (List Int) :=
  if 0 ≤ (a17_.length : Int) ∧ (a17_.length : Int) ≤ 1073741824 then
    (plaws_toIntS_L1 k a17_ k (List.replicate ((a17_.length : Int)).toNat 0) 0).bind fun out1 => match out1 with
    | .ret r => some r
    | .done a20_ =>
      some a20_
  else none
theorem claws_toIntS {k : Nat} {a17_ : List Int} {r : (List Int)} (h : plaws_toIntS k a17_ = some r) : FnO Try.prog 68 [.v (.sl (List.map cI.i64 a17_)) []] (.v (.sl (List.map cI.i64 r)) []) [] := by
  refine FnO.of Try.func68 (rfl : Try.f68.body = some _) (Nat.le_of_ble_eq_true (by kernel_rfl)) (Nat.le_of_ble_eq_true (by kernel_rfl)) ?_
  intro w0 X0 Fin pv0 pb
  unfold plaws_toIntS at h
  refine Wc.seq ?_
  refine Wc.region [] [] [0] [] [] ⟨[(0, (.v (.sl (List.map cI.i64 a17_)), []))], [], []⟩ _ (by kernel_rfl) .nil ?_
  refine Wc.seq ?_
  obtain ⟨h15, h⟩ := oguard h
  refine Wc.region [{}, { v := some (.int .i64 (a17_.length : Int)) }, { c := some (List.map cI.i64 (List.replicate ((a17_.length : Int)).toNat 0)) }, { tk := [7] }] [] [0, 3] [] [] ⟨[(0, (.v (.sl (List.map cI.i64 a17_)), [])), (3, (.v (.slx), [(0, .ex 3 true (List.map cI.i64 (List.replicate ((a17_.length : Int)).toNat 0)))]))], [], []⟩ _ (by kernel_rfl) (.cons (len_obl cI.i64 a17_) (.cons (rep_re (c := cI.i64) (z := 0) rfl ((a17_.length : Int)).toNat) (.cons (ms_obl h15) .nil))) ?_
  refine Wc.seq ?_
  refine Wc.seq ?_
  refine Wc.region [] [] [0, 3, 4] [] [] ⟨[(0, (.v (.sl (List.map cI.i64 a17_)), [])), (3, (.v (.slx), [(0, .ex 3 true (List.map cI.i64 (List.replicate ((a17_.length : Int)).toNat 0)))])), (4, (.v (.int .i64 0), []))], [], []⟩ _ (by kernel_rfl) .nil ?_
  obtain ⟨out1, h16, h⟩ := obind h
  refine Wc.lastJ (fun st => ∃ (a20_ : List Int), out1 = .done a20_ ∧ st = ⟨[(3, (.v (.slx), [(0, .ex 3 true (List.map cI.i64 a20_))]))], [], []⟩) ?_ ?_
  · refine Wc.block ?_
    refine Wc.loop (fun m st => ∃ (a18_ : List Int) (b19_ : Int), st = ⟨[(0, (.v (.sl (List.map cI.i64 a17_)), [])), (3, (.v (.slx), [(0, .ex 3 true (List.map cI.i64 a18_))])), (4, (.v (.int .i64 b19_), []))], [], []⟩ ∧ plaws_toIntS_L1 k a17_ m a18_ b19_ = some out1) ?_ k ⟨_, _, rfl, h16⟩
    rintro m st ⟨a18_, b19_, rfl, h16⟩
    cases m with
    | zero => exact (onone h16).elim
    | succ m =>
      refine Wc.seq ?_
      refine Wc.seq ?_
      refine Wc.region [{}, {}, { v := some (.int .i64 (a17_.length : Int)) }] [] [0, 3, 4, 11] [] [] ⟨[(0, (.v (.sl (List.map cI.i64 a17_)), [])), (3, (.v (.slx), [(0, .ex 3 true (List.map cI.i64 a18_))])), (4, (.v (.int .i64 b19_), [])), (11, (.v (.bool (decide (b19_ < (a17_.length : Int)))), []))], [], []⟩ _ (by kernel_rfl) (.cons (len_obl cI.i64 a17_) .nil) ?_
      rcases oif h16 with ⟨h17, h16⟩ | ⟨h17, h16⟩
      · refine Wc.condT h17 (by kernel_rfl) ?_
        refine Wc.fix (st' := ⟨[(0, (.v (.sl (List.map cI.i64 a17_)), [])), (3, (.v (.slx), [(0, .ex 3 true (List.map cI.i64 a18_))])), (4, (.v (.int .i64 b19_), []))], [], []⟩) [] [0, 3, 4] [] [] (by kernel_rfl) ?_
        refine Wc.skip ?_
        refine Wc.seq ?_
        refine Wc.block ?_
        obtain ⟨b21_, h18, h16⟩ := obind h16
        obtain ⟨b22_, h19, h16⟩ := obind h16
        refine Wc.region [{}, {}, {}, {}, { v := some (.vptr [.int .i64 b21_]) }, {}, {}, { c := some (List.map cI.i64 (a18_.set ((b19_).toNat) b21_)) }] [] [0, 3, 4] [] [] ⟨[(0, (.v (.sl (List.map cI.i64 a17_)), [])), (3, (.v (.slx), [(0, .ex 3 true (List.map cI.i64 (a18_.set ((b19_).toNat) b21_)))])), (4, (.v (.int .i64 b19_), []))], [], []⟩ _ (by kernel_rfl) (.cons (at_obl (c := cI.i64) rfl cI.i64_len h18) (.cons (len_ok 1 [.int .i64 b21_]) (.cons (ix_obl (c := cI.i64) cI.i64_len h19) (.cons (mod_obl (off := 0) (new := [.int .i64 b21_]) (c := cI.i64) rfl rfl (at'_spec h19).2 rfl) (.cons (st_obl (sz := 1) (off := 0) (s := 1) (c := cI.i64) rfl (at'_spec h19).2 rfl (Nat.le_of_ble_eq_true rfl)) .nil))))) ?_
        refine Wc.region [] [] [0, 3, 4] [] [] ⟨[(0, (.v (.sl (List.map cI.i64 a17_)), [])), (3, (.v (.slx), [(0, .ex 3 true (List.map cI.i64 (a18_.set ((b19_).toNat) b21_)))])), (4, (.v (.int .i64 (wr.i64 (b19_ + 1))), []))], [], []⟩ _ (by kernel_rfl) .nil ?_
        exact ⟨_, Nat.lt_succ_self _, _, _, rfl, h16⟩
      · refine Wc.condF h17 (by kernel_rfl) ?_
        refine Wc.fix (st' := ⟨[(3, (.v (.slx), [(0, .ex 3 true (List.map cI.i64 a18_))]))], [], []⟩) [] [3] [] [] (by kernel_rfl) ?_
        refine Wc.exit ?_
        obtain rfl := Option.some.inj h16
        exact ⟨_, rfl, rfl⟩
  · rintro st ⟨a20_, rfl, rfl⟩
    refine Wc.seq ?_
    refine Wc.region [{ tk := [3] }, { tk := [21] }] [] [2] [] [] ⟨[(2, (.v (.slx), [(0, .ex 3 true (List.map cI.i64 a20_))]))], [], []⟩ _ (by kernel_rfl) .nil ?_
    refine Wc.fix (st' := ⟨[(2, (.v (.sl (List.map cI.i64 a20_)), []))], [], []⟩) [.sh (.t 2 0)] [2] [] [] (by kernel_rfl) ?_
    refine Wc.ret ?_
    obtain rfl := Option.some.inj h
    exact ⟨.inl rfl, by kernel_rfl, by kernel_rfl⟩

/-- laws.toCell -/
def plaws_toCell (k : Nat) (c23_ : GCell) : Option GCell :=
  (plaws_toIntS k c23_.gKids).bind fun f24_ =>
  some (GCell.mk c23_.gKind c23_.gName c23_.gNum c23_.gTo f24_)
theorem claws_toCell {k : Nat} {c23_ : GCell} {r : GCell} (h : plaws_toCell k c23_ = some r) : FnO Try.prog 113 [.v (.agg [.int .i64 c23_.gKind, .str c23_.gName, .int .i64 c23_.gNum, .int .i64 c23_.gTo, .sl (List.map cI.i64 c23_.gKids)]) []] (.v (.agg [.int .i64 r.gKind, .str r.gName, .int .i64 r.gNum, .int .i64 r.gTo, .sl (List.map cI.i64 r.gKids)]) []) [] := by
  refine FnO.of Try.func113 (rfl : Try.f113.body = some _) (Nat.le_of_ble_eq_true (by kernel_rfl)) (Nat.le_of_ble_eq_true (by kernel_rfl)) ?_
  intro w0 X0 Fin pv0 pb
  unfold plaws_toCell at h
  refine Wc.seq ?_
  refine Wc.region [] [] [1, 2] [1, 2] [] ⟨[(1, (.ptr 1 0, [])), (2, (.ptr 2 0, []))], [(1, .cells [.int .i64 c23_.gKind, .str c23_.gName, .int .i64 c23_.gNum, .int .i64 c23_.gTo, .sl (List.map cI.i64 c23_.gKids)] []), (2, .cells [.int .i64 0, .str (bs []), .int .i64 0, .int .i64 0, .sl (List.map cI.i64 [])] [(4, .app 3)])], []⟩ _ (by kernel_rfl) .nil ?_
  refine Wc.seq ?_
  refine Wc.region [] [] [1, 2, 3] [1, 2, 3] [] ⟨[(1, (.ptr 1 0, [])), (2, (.ptr 2 0, [])), (3, (.ptr 3 0, []))], [(1, .cells [.int .i64 c23_.gKind, .str c23_.gName, .int .i64 c23_.gNum, .int .i64 c23_.gTo, .sl (List.map cI.i64 c23_.gKids)] []), (2, .cells [.int .i64 0, .str (bs []), .int .i64 0, .int .i64 0, .sl (List.map cI.i64 [])] [(4, .app 3)]), (3, .cells [.int .i64 0, .str (bs []), .int .i64 0, .int .i64 0, .sl (List.map cI.i64 [])] [(4, .app 3)])], []⟩ _ (by kernel_rfl) .nil ?_
  refine Wc.seq ?_
  refine Wc.region [] [] [1, 2, 3] [1, 2, 3] [] ⟨[(1, (.ptr 1 0, [])), (2, (.ptr 2 0, [])), (3, (.ptr 3 0, []))], [(1, .cells [.int .i64 c23_.gKind, .str c23_.gName, .int .i64 c23_.gNum, .int .i64 c23_.gTo, .sl (List.map cI.i64 c23_.gKids)] []), (2, .cells [.int .i64 0, .str (bs []), .int .i64 0, .int .i64 0, .sl (List.map cI.i64 [])] [(4, .app 3)]), (3, .cells [.int .i64 c23_.gKind, .str (bs []), .int .i64 0, .int .i64 0, .sl (List.map cI.i64 [])] [(4, .app 3)])], []⟩ _ (by kernel_rfl) .nil ?_
  refine Wc.seq ?_
  refine Wc.region [] [] [1, 2, 3] [1, 2, 3] [] ⟨[(1, (.ptr 1 0, [])), (2, (.ptr 2 0, [])), (3, (.ptr 3 0, []))], [(1, .cells [.int .i64 c23_.gKind, .str c23_.gName, .int .i64 c23_.gNum, .int .i64 c23_.gTo, .sl (List.map cI.i64 c23_.gKids)] []), (2, .cells [.int .i64 0, .str (bs []), .int .i64 0, .int .i64 0, .sl (List.map cI.i64 [])] [(4, .app 3)]), (3, .cells [.int .i64 c23_.gKind, .str c23_.gName, .int .i64 0, .int .i64 0, .sl (List.map cI.i64 [])] [(4, .app 3)])], []⟩ _ (by kernel_rfl) .nil ?_
  refine Wc.seq ?_
  refine Wc.region [] [] [1, 2, 3] [1, 2, 3] [] ⟨[(1, (.ptr 1 0, [])), (2, (.ptr 2 0, [])), (3, (.ptr 3 0, []))], [(1, .cells [.int .i64 c23_.gKind, .str c23_.gName, .int .i64 c23_.gNum, .int .i64 c23_.gTo, .sl (List.map cI.i64 c23_.gKids)] []), (2, .cells [.int .i64 0, .str (bs []), .int .i64 0, .int .i64 0, .sl (List.map cI.i64 [])] [(4, .app 3)]), (3, .cells [.int .i64 c23_.gKind, .str c23_.gName, .int .i64 c23_.gNum, .int .i64 0, .sl (List.map cI.i64 [])] [(4, .app 3)])], []⟩ _ (by kernel_rfl) .nil ?_
  refine Wc.seq ?_
  refine Wc.region [] [] [1, 2, 3] [1, 2, 3] [] ⟨[(1, (.ptr 1 0, [])), (2, (.ptr 2 0, [])), (3, (.ptr 3 0, []))], [(1, .cells [.int .i64 c23_.gKind, .str c23_.gName, .int .i64 c23_.gNum, .int .i64 c23_.gTo, .sl (List.map cI.i64 c23_.gKids)] []), (2, .cells [.int .i64 0, .str (bs []), .int .i64 0, .int .i64 0, .sl (List.map cI.i64 [])] [(4, .app 3)]), (3, .cells [.int .i64 c23_.gKind, .str c23_.gName, .int .i64 c23_.gNum, .int .i64 c23_.gTo, .sl (List.map cI.i64 [])] [(4, .app 3)])], []⟩ _ (by kernel_rfl) .nil ?_
  refine Wc.seq ?_
  obtain ⟨f24_, h20, h⟩ := obind h
  refine Wc.region [{}, {}, { r := some (.v (.sl (List.map cI.i64 f24_)) []) }] [] [2, 3] [2, 3] [] ⟨[(2, (.ptr 2 0, [])), (3, (.ptr 3 0, []))], [(2, .cells [.int .i64 0, .str (bs []), .int .i64 0, .int .i64 0, .sl (List.map cI.i64 [])] [(4, .app 3)]), (3, .cells [.int .i64 c23_.gKind, .str c23_.gName, .int .i64 c23_.gNum, .int .i64 c23_.gTo, .sl (List.map cI.i64 f24_)] [])], []⟩ _ (by kernel_rfl) (.cons (claws_toIntS h20) .nil) ?_
  refine Wc.seq ?_
  refine Wc.region [] [] [2] [2] [] ⟨[(2, (.ptr 2 0, []))], [(2, .cells [.int .i64 c23_.gKind, .str c23_.gName, .int .i64 c23_.gNum, .int .i64 c23_.gTo, .sl (List.map cI.i64 f24_)] [])], []⟩ _ (by kernel_rfl) .nil ?_
  refine Wc.ret ?_
  obtain rfl := Option.some.inj h
  exact ⟨.inl rfl, by kernel_rfl, by kernel_rfl⟩

def plaws_toCellS_L1 (k : Nat) (d25_ : List GCell) : Nat → (List GCell) → Int → Option (Out (List GCell) (List GCell))
  | 0, _, _ => none
  | m + 1, d26_, b27_ =>
    if (decide (b27_ < (d25_.length : Int))) = true then
      (at' d25_ b27_).bind fun c29_ =>
      (plaws_toCell k c29_).bind fun c30_ =>
      (at' d26_ b27_).bind fun c31_ =>
      plaws_toCellS_L1 k d25_ m (d26_.set ((b27_).toNat) c30_) (wr.i64 (b27_ + 1))
    else
      some (.done d26_)
/-- laws.toCellS -/
def plaws_toCellS (k : Nat) (d25_ : List GCell) : Option (List GCell) :=
  if 0 ≤ (d25_.length : Int) ∧ (d25_.length : Int) ≤ 1073741824 then
    (plaws_toCellS_L1 k d25_ k (List.replicate ((d25_.length : Int)).toNat (GCell.mk 0 (bs []) 0 0 [])) 0).bind fun out1 => match out1 with
    | .ret r => some r
    | .done d28_ =>
      some d28_
  else none
theorem claws_toCellS {k : Nat} {d25_ : List GCell} {r : (List GCell)} (h : plaws_toCellS k d25_ = some r) : FnO Try.prog 67 [.v (.sl (List.map GCell.c d25_)) []] (.v (.sl (List.map GCell.c r)) []) [] := by
  refine FnO.of Try.func67 (rfl : Try.f67.body = some _) (Nat.le_of_ble_eq_true (by kernel_rfl)) (Nat.le_of_ble_eq_true (by kernel_rfl)) ?_
  intro w0 X0 Fin pv0 pb
  unfold plaws_toCellS at h
  refine Wc.seq ?_
  refine Wc.region [] [] [0] [] [] ⟨[(0, (.v (.sl (List.map GCell.c d25_)), []))], [], []⟩ _ (by kernel_rfl) .nil ?_
  refine Wc.seq ?_
  obtain ⟨h21, h⟩ := oguard h
  refine Wc.region [{}, { v := some (.int .i64 (d25_.length : Int)) }, { c := some (List.map GCell.c (List.replicate ((d25_.length : Int)).toNat (GCell.mk 0 (bs []) 0 0 []))) }, { tk := [7], fx := [.ag (.t 7 0)] }] [] [0, 3] [] [] ⟨[(0, (.v (.sl (List.map GCell.c d25_)), [])), (3, (.v (.slx), [(0, .ex 139 false (List.map GCell.c (List.replicate ((d25_.length : Int)).toNat (GCell.mk 0 (bs []) 0 0 []))))]))], [], []⟩ _ (by kernel_rfl) (.cons (len_obl GCell.c d25_) (.cons (rep_re (c := GCell.c) (z := (GCell.mk 0 (bs []) 0 0 [])) (GCell.c_eq (GCell.mk 0 (bs []) 0 0 [])) ((d25_.length : Int)).toNat) (.cons (ms_obl h21) .nil))) ?_
  refine Wc.seq ?_
  refine Wc.seq ?_
  refine Wc.region [] [] [0, 3, 4] [] [] ⟨[(0, (.v (.sl (List.map GCell.c d25_)), [])), (3, (.v (.slx), [(0, .ex 139 false (List.map GCell.c (List.replicate ((d25_.length : Int)).toNat (GCell.mk 0 (bs []) 0 0 []))))])), (4, (.v (.int .i64 0), []))], [], []⟩ _ (by kernel_rfl) .nil ?_
  obtain ⟨out1, h22, h⟩ := obind h
  refine Wc.lastJ (fun st => ∃ (d28_ : List GCell), out1 = .done d28_ ∧ st = ⟨[(3, (.v (.slx), [(0, .ex 139 false (List.map GCell.c d28_))]))], [], []⟩) ?_ ?_
  · refine Wc.block ?_
    refine Wc.loop (fun m st => ∃ (d26_ : List GCell) (b27_ : Int), st = ⟨[(0, (.v (.sl (List.map GCell.c d25_)), [])), (3, (.v (.slx), [(0, .ex 139 false (List.map GCell.c d26_))])), (4, (.v (.int .i64 b27_), []))], [], []⟩ ∧ plaws_toCellS_L1 k d25_ m d26_ b27_ = some out1) ?_ k ⟨_, _, rfl, h22⟩
    rintro m st ⟨d26_, b27_, rfl, h22⟩
    cases m with
    | zero => exact (onone h22).elim
    | succ m =>
      refine Wc.seq ?_
      refine Wc.seq ?_
      refine Wc.region [{}, {}, { v := some (.int .i64 (d25_.length : Int)) }] [] [0, 3, 4, 11] [] [] ⟨[(0, (.v (.sl (List.map GCell.c d25_)), [])), (3, (.v (.slx), [(0, .ex 139 false (List.map GCell.c d26_))])), (4, (.v (.int .i64 b27_), [])), (11, (.v (.bool (decide (b27_ < (d25_.length : Int)))), []))], [], []⟩ _ (by kernel_rfl) (.cons (len_obl GCell.c d25_) .nil) ?_
      rcases oif h22 with ⟨h23, h22⟩ | ⟨h23, h22⟩
      · refine Wc.condT h23 (by kernel_rfl) ?_
        refine Wc.fix (st' := ⟨[(0, (.v (.sl (List.map GCell.c d25_)), [])), (3, (.v (.slx), [(0, .ex 139 false (List.map GCell.c d26_))])), (4, (.v (.int .i64 b27_), []))], [], []⟩) [] [0, 3, 4] [] [] (by kernel_rfl) ?_
        refine Wc.skip ?_
        refine Wc.seq ?_
        refine Wc.block ?_
        obtain ⟨c29_, h24, h22⟩ := obind h22
        obtain ⟨c30_, h25, h22⟩ := obind h22
        obtain ⟨c31_, h26, h22⟩ := obind h22
        refine Wc.region [{}, {}, {}, {}, { v := some (.vptr [.int .i64 c29_.gKind, .str c29_.gName, .int .i64 c29_.gNum, .int .i64 c29_.gTo, .sl (List.map cI.i64 c29_.gKids)]) }, {}, { r := some (.v (.agg [.int .i64 c30_.gKind, .str c30_.gName, .int .i64 c30_.gNum, .int .i64 c30_.gTo, .sl (List.map cI.i64 c30_.gKids)]) []) }, {}, { c := some (List.map GCell.c (d26_.set ((b27_).toNat) c30_)) }] [] [0, 3, 4] [] [] ⟨[(0, (.v (.sl (List.map GCell.c d25_)), [])), (3, (.v (.slx), [(0, .ex 139 false (List.map GCell.c (d26_.set ((b27_).toNat) c30_)))])), (4, (.v (.int .i64 b27_), []))], [], []⟩ _ (by kernel_rfl) (.cons (at_obl (c := GCell.c) (GCell.c_eq c29_) GCell.c_len h24) (.cons (len_ok 5 [.int .i64 c29_.gKind, .str c29_.gName, .int .i64 c29_.gNum, .int .i64 c29_.gTo, .sl (List.map cI.i64 c29_.gKids)]) (.cons (claws_toCell h25) (.cons (ix_obl (c := GCell.c) GCell.c_len h26) (.cons (mod_obl (off := 0) (new := [.int .i64 c30_.gKind, .str c30_.gName, .int .i64 c30_.gNum, .int .i64 c30_.gTo, .sl (List.map cI.i64 c30_.gKids)]) (c := GCell.c) (GCell.c_eq c31_) (GCell.c_eq c30_) (at'_spec h26).2 rfl) (.cons (st_obl (sz := 5) (off := 0) (s := 5) (c := GCell.c) (GCell.c_eq c31_) (at'_spec h26).2 rfl (Nat.le_of_ble_eq_true rfl)) .nil)))))) ?_
        refine Wc.region [] [] [0, 3, 4] [] [] ⟨[(0, (.v (.sl (List.map GCell.c d25_)), [])), (3, (.v (.slx), [(0, .ex 139 false (List.map GCell.c (d26_.set ((b27_).toNat) c30_)))])), (4, (.v (.int .i64 (wr.i64 (b27_ + 1))), []))], [], []⟩ _ (by kernel_rfl) .nil ?_
        exact ⟨_, Nat.lt_succ_self _, _, _, rfl, h22⟩
      · refine Wc.condF h23 (by kernel_rfl) ?_
        refine Wc.fix (st' := ⟨[(3, (.v (.slx), [(0, .ex 139 false (List.map GCell.c d26_))]))], [], []⟩) [] [3] [] [] (by kernel_rfl) ?_
        refine Wc.exit ?_
        obtain rfl := Option.some.inj h22
        exact ⟨_, rfl, rfl⟩
  · rintro st ⟨d28_, rfl, rfl⟩
    refine Wc.seq ?_
    refine Wc.region [{ tk := [3] }, { tk := [22] }] [] [2] [] [] ⟨[(2, (.v (.slx), [(0, .ex 139 false (List.map GCell.c d28_))]))], [], []⟩ _ (by kernel_rfl) .nil ?_
    refine Wc.fix (st' := ⟨[(2, (.v (.sl (List.map GCell.c d28_)), []))], [], []⟩) [.sh (.t 2 0)] [2] [] [] (by kernel_rfl) ?_
    refine Wc.ret ?_
    obtain rfl := Option.some.inj h
    exact ⟨.inl rfl, by kernel_rfl, by kernel_rfl⟩

/-- laws.toHeap -/
def plaws_toHeap (k : Nat) (e32_ : GHeap) : Option GHeap :=
  (plaws_toCellS k e32_.gCells).bind fun g33_ =>
  (plaws_toIntS k e32_.gTrail).bind fun f34_ =>
  some (GHeap.mk g33_ f34_)
theorem claws_toHeap {k : Nat} {e32_ : GHeap} {r : GHeap} (h : plaws_toHeap k e32_ = some r) : FnO Try.prog 18 [.v (.agg [.sl (List.map GCell.c e32_.gCells), .sl (List.map cI.i64 e32_.gTrail)]) []] (.v (.agg [.sl (List.map GCell.c r.gCells), .sl (List.map cI.i64 r.gTrail)]) []) [] := by
  refine FnO.of Try.func18 (rfl : Try.f18.body = some _) (Nat.le_of_ble_eq_true (by kernel_rfl)) (Nat.le_of_ble_eq_true (by kernel_rfl)) ?_
  intro w0 X0 Fin pv0 pb
  unfold plaws_toHeap at h
  refine Wc.seq ?_
  refine Wc.region [] [] [1, 2] [1, 2] [] ⟨[(1, (.ptr 1 0, [])), (2, (.ptr 2 0, []))], [(1, .cells [.sl (List.map GCell.c e32_.gCells), .sl (List.map cI.i64 e32_.gTrail)] []), (2, .cells [.sl (List.map GCell.c []), .sl (List.map cI.i64 [])] [(0, .app 139), (1, .app 3)])], []⟩ _ (by kernel_rfl) .nil ?_
  refine Wc.seq ?_
  refine Wc.region [] [] [1, 2, 3] [1, 2, 3] [] ⟨[(1, (.ptr 1 0, [])), (2, (.ptr 2 0, [])), (3, (.ptr 3 0, []))], [(1, .cells [.sl (List.map GCell.c e32_.gCells), .sl (List.map cI.i64 e32_.gTrail)] []), (2, .cells [.sl (List.map GCell.c []), .sl (List.map cI.i64 [])] [(0, .app 139), (1, .app 3)]), (3, .cells [.sl (List.map GCell.c []), .sl (List.map cI.i64 [])] [(0, .app 139), (1, .app 3)])], []⟩ _ (by kernel_rfl) .nil ?_
  refine Wc.seq ?_
  obtain ⟨g33_, h27, h⟩ := obind h
  refine Wc.region [{}, {}, { r := some (.v (.sl (List.map GCell.c g33_)) []) }] [] [1, 2, 3] [1, 2, 3] [] ⟨[(1, (.ptr 1 0, [])), (2, (.ptr 2 0, [])), (3, (.ptr 3 0, []))], [(1, .cells [.sl (List.map GCell.c e32_.gCells), .sl (List.map cI.i64 e32_.gTrail)] []), (2, .cells [.sl (List.map GCell.c []), .sl (List.map cI.i64 [])] [(0, .app 139), (1, .app 3)]), (3, .cells [.sl (List.map GCell.c g33_), .sl (List.map cI.i64 [])] [(1, .app 3)])], []⟩ _ (by kernel_rfl) (.cons (claws_toCellS h27) .nil) ?_
  refine Wc.seq ?_
  obtain ⟨f34_, h28, h⟩ := obind h
  refine Wc.region [{}, {}, { r := some (.v (.sl (List.map cI.i64 f34_)) []) }] [] [2, 3] [2, 3] [] ⟨[(2, (.ptr 2 0, [])), (3, (.ptr 3 0, []))], [(2, .cells [.sl (List.map GCell.c []), .sl (List.map cI.i64 [])] [(0, .app 139), (1, .app 3)]), (3, .cells [.sl (List.map GCell.c g33_), .sl (List.map cI.i64 f34_)] [])], []⟩ _ (by kernel_rfl) (.cons (claws_toIntS h28) .nil) ?_
  refine Wc.seq ?_
  refine Wc.region [] [] [2] [2] [] ⟨[(2, (.ptr 2 0, []))], [(2, .cells [.sl (List.map GCell.c g33_), .sl (List.map cI.i64 f34_)] [])], []⟩ _ (by kernel_rfl) .nil ?_
  refine Wc.ret ?_
  obtain rfl := Option.some.inj h
  exact ⟨.inl rfl, by kernel_rfl, by kernel_rfl⟩

def plaws_eqTermS_L1 (k : Nat) (rlaws_eqTerm : GTerm → GTerm → Option Bool) (rlaws_eqTermS : (List GTerm) → (List GTerm) → Option Bool) (i38_ : List GTerm) (i39_ : List GTerm) : Nat → Int → Option (Out Bool Unit)
  | 0, _ => none
  | m + 1, b40_ =>
    if (decide (b40_ < (i38_.length : Int))) = true then
      (at' i38_ b40_).bind fun j41_ =>
      (at' i39_ b40_).bind fun j42_ =>
      (rlaws_eqTerm j41_ j42_).bind fun l43_ =>
      if (!l43_) = true then
        some (.ret false)
      else
        plaws_eqTermS_L1 k rlaws_eqTerm rlaws_eqTermS i38_ i39_ m (wr.i64 (b40_ + 1))
    else
      some (.done ())
mutual
/-- laws.eqTerm -/
def plaws_eqTerm : Nat → GTerm → GTerm → Option Bool
  | 0, _, _ => none
  | k + 1, j35_, j36_ =>
    if (j35_.gKind != j36_.gKind) = true then
      some false
    else
      if (!(sEq j35_.gName j36_.gName)) = true then
        some false
      else
        if (j35_.gNum != j36_.gNum) = true then
          some false
        else
          (plaws_eqTermS k j35_.gKids j36_.gKids).bind fun l37_ =>
          if (!l37_) = true then
            some false
          else
            some true
/-- laws.eqTermS -/
def plaws_eqTermS : Nat → (List GTerm) → (List GTerm) → Option Bool
  | 0, _, _ => none
  | k + 1, i38_, i39_ =>
    if ((i38_.length : Int) != (i39_.length : Int)) = true then
      some false
    else
      (plaws_eqTermS_L1 k (plaws_eqTerm k) (plaws_eqTermS k) i38_ i39_ k 0).bind fun out1 => match out1 with
      | .ret r => some r
      | .done () =>
        some true
end
set_option maxHeartbeats 4000000 in
theorem all_plaws_eqTerm : ∀ k : Nat, (∀ {j35_ : GTerm} {j36_ : GTerm} {r : Bool}, plaws_eqTerm k j35_ j36_ = some r → FnO Try.prog 20 [.v (.agg [.int .i64 j35_.gKind, .str j35_.gName, .int .i64 j35_.gNum, .sl (List.map GTerm.c j35_.gKids)]) [], .v (.agg [.int .i64 j36_.gKind, .str j36_.gName, .int .i64 j36_.gNum, .sl (List.map GTerm.c j36_.gKids)]) []] (.v (.bool r) []) []) ∧
    (∀ {i38_ : List GTerm} {i39_ : List GTerm} {r : Bool}, plaws_eqTermS k i38_ i39_ = some r → FnO Try.prog 71 [.v (.sl (List.map GTerm.c i38_)) [], .v (.sl (List.map GTerm.c i39_)) []] (.v (.bool r) []) []) := by
  intro k
  induction k with
  | zero =>
    refine ⟨?_, ?_⟩
    · intro j35_ j36_ r h
      exact (onone (by rw [plaws_eqTerm] at h; exact h)).elim
    · intro i38_ i39_ r h
      exact (onone (by rw [plaws_eqTermS] at h; exact h)).elim
  | succ k ih =>
    obtain ⟨ih_plaws_eqTerm, ih_plaws_eqTermS⟩ := ih
    refine ⟨?_, ?_⟩
    · intro j35_ j36_ r h
      rw [plaws_eqTerm] at h
      refine FnO.of Try.func20 (rfl : Try.f20.body = some _) (Nat.le_of_ble_eq_true (by kernel_rfl)) (Nat.le_of_ble_eq_true (by kernel_rfl)) ?_
      intro w0 X0 Fin pv0 pb
      refine Wc.seq ?_
      refine Wc.region [] [] [2, 3] [2, 3] [] ⟨[(2, (.ptr 2 0, [])), (3, (.ptr 3 0, []))], [(2, .cells [.int .i64 j35_.gKind, .str j35_.gName, .int .i64 j35_.gNum, .sl (List.map GTerm.c j35_.gKids)] []), (3, .cells [.int .i64 j36_.gKind, .str j36_.gName, .int .i64 j36_.gNum, .sl (List.map GTerm.c j36_.gKids)] [])], []⟩ _ (by kernel_rfl) .nil ?_
      refine Wc.seq ?_
      refine Wc.seq ?_
      refine Wc.region [] [] [2, 3, 9] [2, 3] [] ⟨[(2, (.ptr 2 0, [])), (3, (.ptr 3 0, [])), (9, (.v (.bool (j35_.gKind != j36_.gKind)), []))], [(2, .cells [.int .i64 j35_.gKind, .str j35_.gName, .int .i64 j35_.gNum, .sl (List.map GTerm.c j35_.gKids)] []), (3, .cells [.int .i64 j36_.gKind, .str j36_.gName, .int .i64 j36_.gNum, .sl (List.map GTerm.c j36_.gKids)] [])], []⟩ _ (by kernel_rfl) .nil ?_
      rcases oif h with ⟨h29, h⟩ | ⟨h29, h⟩
      · refine Wc.condT h29 (by kernel_rfl) ?_
        refine Wc.seq ?_
        refine Wc.region [] [] [4] [] [] ⟨[(4, (.v (.bool false), []))], [], []⟩ _ (by kernel_rfl) .nil ?_
        refine Wc.ret ?_
        obtain rfl := Option.some.inj h
        exact ⟨.inl rfl, by kernel_rfl, by kernel_rfl⟩
      · refine Wc.condF h29 (by kernel_rfl) ?_
        refine Wc.fix (st' := ⟨[(2, (.ptr 2 0, [])), (3, (.ptr 3 0, []))], [(2, .cells [.int .i64 j35_.gKind, .str j35_.gName, .int .i64 j35_.gNum, .sl (List.map GTerm.c j35_.gKids)] []), (3, .cells [.int .i64 j36_.gKind, .str j36_.gName, .int .i64 j36_.gNum, .sl (List.map GTerm.c j36_.gKids)] [])], []⟩) [] [2, 3] [2, 3] [] (by kernel_rfl) ?_
        refine Wc.skip ?_
        refine Wc.seq ?_
        refine Wc.seq ?_
        refine Wc.region [] [] [2, 3, 14] [2, 3] [] ⟨[(2, (.ptr 2 0, [])), (3, (.ptr 3 0, [])), (14, (.v (.bool (!(sEq j35_.gName j36_.gName))), []))], [(2, .cells [.int .i64 j35_.gKind, .str j35_.gName, .int .i64 j35_.gNum, .sl (List.map GTerm.c j35_.gKids)] []), (3, .cells [.int .i64 j36_.gKind, .str j36_.gName, .int .i64 j36_.gNum, .sl (List.map GTerm.c j36_.gKids)] [])], []⟩ _ (by kernel_rfl) .nil ?_
        rcases oif h with ⟨h30, h⟩ | ⟨h30, h⟩
        · refine Wc.condT h30 (by kernel_rfl) ?_
          refine Wc.seq ?_
          refine Wc.region [] [] [4] [] [] ⟨[(4, (.v (.bool false), []))], [], []⟩ _ (by kernel_rfl) .nil ?_
          refine Wc.ret ?_
          obtain rfl := Option.some.inj h
          exact ⟨.inl rfl, by kernel_rfl, by kernel_rfl⟩
        · refine Wc.condF h30 (by kernel_rfl) ?_
          refine Wc.fix (st' := ⟨[(2, (.ptr 2 0, [])), (3, (.ptr 3 0, []))], [(2, .cells [.int .i64 j35_.gKind, .str j35_.gName, .int .i64 j35_.gNum, .sl (List.map GTerm.c j35_.gKids)] []), (3, .cells [.int .i64 j36_.gKind, .str j36_.gName, .int .i64 j36_.gNum, .sl (List.map GTerm.c j36_.gKids)] [])], []⟩) [] [2, 3] [2, 3] [] (by kernel_rfl) ?_
          refine Wc.skip ?_
          refine Wc.seq ?_
          refine Wc.seq ?_
          refine Wc.region [] [] [2, 3, 19] [2, 3] [] ⟨[(2, (.ptr 2 0, [])), (3, (.ptr 3 0, [])), (19, (.v (.bool (j35_.gNum != j36_.gNum)), []))], [(2, .cells [.int .i64 j35_.gKind, .str j35_.gName, .int .i64 j35_.gNum, .sl (List.map GTerm.c j35_.gKids)] []), (3, .cells [.int .i64 j36_.gKind, .str j36_.gName, .int .i64 j36_.gNum, .sl (List.map GTerm.c j36_.gKids)] [])], []⟩ _ (by kernel_rfl) .nil ?_
          rcases oif h with ⟨h31, h⟩ | ⟨h31, h⟩
          · refine Wc.condT h31 (by kernel_rfl) ?_
            refine Wc.seq ?_
            refine Wc.region [] [] [4] [] [] ⟨[(4, (.v (.bool false), []))], [], []⟩ _ (by kernel_rfl) .nil ?_
            refine Wc.ret ?_
            obtain rfl := Option.some.inj h
            exact ⟨.inl rfl, by kernel_rfl, by kernel_rfl⟩
          · refine Wc.condF h31 (by kernel_rfl) ?_
            refine Wc.fix (st' := ⟨[(2, (.ptr 2 0, [])), (3, (.ptr 3 0, []))], [(2, .cells [.int .i64 j35_.gKind, .str j35_.gName, .int .i64 j35_.gNum, .sl (List.map GTerm.c j35_.gKids)] []), (3, .cells [.int .i64 j36_.gKind, .str j36_.gName, .int .i64 j36_.gNum, .sl (List.map GTerm.c j36_.gKids)] [])], []⟩) [] [2, 3] [2, 3] [] (by kernel_rfl) ?_
            refine Wc.skip ?_
            refine Wc.seq ?_
            refine Wc.seq ?_
            obtain ⟨l37_, h32, h⟩ := obind h
            refine Wc.region [{}, {}, {}, {}, { r := some (.v (.bool l37_) []) }] [] [25] [] [] ⟨[(25, (.v (.bool (!l37_)), []))], [], []⟩ _ (by kernel_rfl) (.cons (ih_plaws_eqTermS h32) .nil) ?_
            rcases oif h with ⟨h33, h⟩ | ⟨h33, h⟩
            · refine Wc.condT h33 (by kernel_rfl) ?_
              refine Wc.seq ?_
              refine Wc.region [] [] [4] [] [] ⟨[(4, (.v (.bool false), []))], [], []⟩ _ (by kernel_rfl) .nil ?_
              refine Wc.ret ?_
              obtain rfl := Option.some.inj h
              exact ⟨.inl rfl, by kernel_rfl, by kernel_rfl⟩
            · refine Wc.condF h33 (by kernel_rfl) ?_
              refine Wc.fix (st' := ⟨[], [], []⟩) [] [] [] [] (by kernel_rfl) ?_
              refine Wc.skip ?_
              refine Wc.seq ?_
              refine Wc.region [] [] [4] [] [] ⟨[(4, (.v (.bool true), []))], [], []⟩ _ (by kernel_rfl) .nil ?_
              refine Wc.ret ?_
              obtain rfl := Option.some.inj h
              exact ⟨.inl rfl, by kernel_rfl, by kernel_rfl⟩
    · intro i38_ i39_ r h
      rw [plaws_eqTermS] at h
      refine FnO.of Try.func71 (rfl : Try.f71.body = some _) (Nat.le_of_ble_eq_true (by kernel_rfl)) (Nat.le_of_ble_eq_true (by kernel_rfl)) ?_
      intro w0 X0 Fin pv0 pb
      refine Wc.seq ?_
      refine Wc.region [] [] [0, 1] [] [] ⟨[(0, (.v (.sl (List.map GTerm.c i38_)), [])), (1, (.v (.sl (List.map GTerm.c i39_)), []))], [], []⟩ _ (by kernel_rfl) .nil ?_
      refine Wc.seq ?_
      refine Wc.seq ?_
      refine Wc.region [{}, { v := some (.int .i64 (i38_.length : Int)) }, {}, { v := some (.int .i64 (i39_.length : Int)) }] [] [0, 1, 10] [] [] ⟨[(0, (.v (.sl (List.map GTerm.c i38_)), [])), (1, (.v (.sl (List.map GTerm.c i39_)), [])), (10, (.v (.bool ((i38_.length : Int) != (i39_.length : Int))), []))], [], []⟩ _ (by kernel_rfl) (.cons (len_obl GTerm.c i38_) (.cons (len_obl GTerm.c i39_) .nil)) ?_
      rcases oif h with ⟨h34, h⟩ | ⟨h34, h⟩
      · refine Wc.condT h34 (by kernel_rfl) ?_
        refine Wc.seq ?_
        refine Wc.region [] [] [4] [] [] ⟨[(4, (.v (.bool false), []))], [], []⟩ _ (by kernel_rfl) .nil ?_
        refine Wc.ret ?_
        obtain rfl := Option.some.inj h
        exact ⟨.inl rfl, by kernel_rfl, by kernel_rfl⟩
      · refine Wc.condF h34 (by kernel_rfl) ?_
        refine Wc.fix (st' := ⟨[(0, (.v (.sl (List.map GTerm.c i38_)), [])), (1, (.v (.sl (List.map GTerm.c i39_)), []))], [], []⟩) [] [0, 1] [] [] (by kernel_rfl) ?_
        refine Wc.skip ?_
        refine Wc.seq ?_
        refine Wc.seq ?_
        refine Wc.region [] [] [0, 1, 5] [] [] ⟨[(0, (.v (.sl (List.map GTerm.c i38_)), [])), (1, (.v (.sl (List.map GTerm.c i39_)), [])), (5, (.v (.int .i64 0), []))], [], []⟩ _ (by kernel_rfl) .nil ?_
        obtain ⟨out1, h35, h⟩ := obind h
        refine Wc.lastJ (fun st => out1 = .done () ∧ st = ⟨[], [], []⟩) ?_ ?_
        · refine Wc.block ?_
          refine Wc.loop (fun m st => ∃ (b40_ : Int), st = ⟨[(0, (.v (.sl (List.map GTerm.c i38_)), [])), (1, (.v (.sl (List.map GTerm.c i39_)), [])), (5, (.v (.int .i64 b40_), []))], [], []⟩ ∧ plaws_eqTermS_L1 k (plaws_eqTerm k) (plaws_eqTermS k) i38_ i39_ m b40_ = some out1) ?_ k ⟨_, rfl, h35⟩
          rintro m st ⟨b40_, rfl, h35⟩
          cases m with
          | zero => exact (onone h35).elim
          | succ m =>
            refine Wc.seq ?_
            refine Wc.seq ?_
            refine Wc.region [{}, {}, { v := some (.int .i64 (i38_.length : Int)) }] [] [0, 1, 5, 14] [] [] ⟨[(0, (.v (.sl (List.map GTerm.c i38_)), [])), (1, (.v (.sl (List.map GTerm.c i39_)), [])), (5, (.v (.int .i64 b40_), [])), (14, (.v (.bool (decide (b40_ < (i38_.length : Int)))), []))], [], []⟩ _ (by kernel_rfl) (.cons (len_obl GTerm.c i38_) .nil) ?_
            rcases oif h35 with ⟨h36, h35⟩ | ⟨h36, h35⟩
            · refine Wc.condT h36 (by kernel_rfl) ?_
              refine Wc.fix (st' := ⟨[(0, (.v (.sl (List.map GTerm.c i38_)), [])), (1, (.v (.sl (List.map GTerm.c i39_)), [])), (5, (.v (.int .i64 b40_), []))], [], []⟩) [] [0, 1, 5] [] [] (by kernel_rfl) ?_
              refine Wc.skip ?_
              refine Wc.seq ?_
              refine Wc.block ?_
              refine Wc.seq ?_
              obtain ⟨j41_, h37, h35⟩ := obind h35
              obtain ⟨j42_, h38, h35⟩ := obind h35
              obtain ⟨l43_, h39, h35⟩ := obind h35
              refine Wc.draw hmix [{}, {}, { v := some (.vptr [.int .i64 j41_.gKind, .str j41_.gName, .int .i64 j41_.gNum, .sl (List.map GTerm.c j41_.gKids)]) }, {}, {}, {}, { v := some (.vptr [.int .i64 j42_.gKind, .str j42_.gName, .int .i64 j42_.gNum, .sl (List.map GTerm.c j42_.gKids)]) }, {}, { r := some (.v (.bool l43_) []) }] [] [0, 1, 5, 26] [] [] ⟨[(0, (.v (.sl (List.map GTerm.c i38_)), [])), (1, (.v (.sl (List.map GTerm.c i39_)), [])), (5, (.v (.int .i64 b40_), [])), (26, (.v (.bool (!l43_)), []))], [], []⟩ _ (by kernel_rfl) (fun X => by kernel_rfl) (.cons (at_obl (c := GTerm.c) (GTerm.c_eq j41_) GTerm.c_len h37) (.cons (len_ok 4 [.int .i64 j41_.gKind, .str j41_.gName, .int .i64 j41_.gNum, .sl (List.map GTerm.c j41_.gKids)]) (.cons (at_obl (c := GTerm.c) (GTerm.c_eq j42_) GTerm.c_len h38) (.cons (len_ok 4 [.int .i64 j42_.gKind, .str j42_.gName, .int .i64 j42_.gNum, .sl (List.map GTerm.c j42_.gKids)]) (.cons (ih_plaws_eqTerm h39) .nil))))) ?_
              rcases oif h35 with ⟨h40, h35⟩ | ⟨h40, h35⟩
              · refine Wc.condT h40 (by kernel_rfl) ?_
                refine Wc.seq ?_
                refine Wc.region [] [] [4] [] [] ⟨[(4, (.v (.bool false), []))], [], []⟩ _ (by kernel_rfl) .nil ?_
                refine Wc.ret ?_
                obtain rfl := Option.some.inj h35
                obtain rfl := Option.some.inj h
                exact ⟨.inl rfl, by kernel_rfl, by kernel_rfl⟩
              · refine Wc.condF h40 (by kernel_rfl) ?_
                refine Wc.fix (st' := ⟨[(0, (.v (.sl (List.map GTerm.c i38_)), [])), (1, (.v (.sl (List.map GTerm.c i39_)), [])), (5, (.v (.int .i64 b40_), []))], [], []⟩) [] [0, 1, 5] [] [] (by kernel_rfl) ?_
                refine Wc.skip ?_
                refine Wc.region [] [] [0, 1, 5] [] [] ⟨[(0, (.v (.sl (List.map GTerm.c i38_)), [])), (1, (.v (.sl (List.map GTerm.c i39_)), [])), (5, (.v (.int .i64 (wr.i64 (b40_ + 1))), []))], [], []⟩ _ (by kernel_rfl) .nil ?_
                exact ⟨_, Nat.lt_succ_self _, _, rfl, h35⟩
            · refine Wc.condF h36 (by kernel_rfl) ?_
              refine Wc.fix (st' := ⟨[], [], []⟩) [] [] [] [] (by kernel_rfl) ?_
              refine Wc.exit ?_
              obtain rfl := Option.some.inj h35
              exact ⟨rfl, rfl⟩
        · rintro st ⟨rfl, rfl⟩
          refine Wc.seq ?_
          refine Wc.region [] [] [4] [] [] ⟨[(4, (.v (.bool true), []))], [], []⟩ _ (by kernel_rfl) .nil ?_
          refine Wc.ret ?_
          obtain rfl := Option.some.inj h
          exact ⟨.inl rfl, by kernel_rfl, by kernel_rfl⟩
theorem claws_eqTerm {k : Nat} {j35_ : GTerm} {j36_ : GTerm} {r : Bool} (h : plaws_eqTerm k j35_ j36_ = some r) : FnO Try.prog 20 [.v (.agg [.int .i64 j35_.gKind, .str j35_.gName, .int .i64 j35_.gNum, .sl (List.map GTerm.c j35_.gKids)]) [], .v (.agg [.int .i64 j36_.gKind, .str j36_.gName, .int .i64 j36_.gNum, .sl (List.map GTerm.c j36_.gKids)]) []] (.v (.bool r) []) [] := (all_plaws_eqTerm k).1 h
theorem claws_eqTermS {k : Nat} {i38_ : List GTerm} {i39_ : List GTerm} {r : Bool} (h : plaws_eqTermS k i38_ i39_ = some r) : FnO Try.prog 71 [.v (.sl (List.map GTerm.c i38_)) [], .v (.sl (List.map GTerm.c i39_)) []] (.v (.bool r) []) [] := (all_plaws_eqTerm k).2 h

def plaws_eqIntS_L1 (k : Nat) (a44_ : List Int) (a45_ : List Int) : Nat → Int → Option (Out Bool Unit)
  | 0, _ => none
  | m + 1, b46_ =>
    if (decide (b46_ < (a44_.length : Int))) = true then
      (at' a44_ b46_).bind fun b47_ =>
      (at' a45_ b46_).bind fun b48_ =>
      if (b47_ != b48_) = true then
        some (.ret false)
      else
        plaws_eqIntS_L1 k a44_ a45_ m (wr.i64 (b46_ + 1))
    else
      some (.done ())
/-- laws.eqIntS -/
def plaws_eqIntS (k : Nat) (a44_ : List Int) (a45_ : List Int) : Option Bool :=
  if ((a44_.length : Int) != (a45_.length : Int)) = true then
    some false
  else
    (plaws_eqIntS_L1 k a44_ a45_ k 0).bind fun out1 => match out1 with
    | .ret r => some r
    | .done () =>
      some true
theorem claws_eqIntS {k : Nat} {a44_ : List Int} {a45_ : List Int} {r : Bool} (h : plaws_eqIntS k a44_ a45_ = some r) : FnO Try.prog 73 [.v (.sl (List.map cI.i64 a44_)) [], .v (.sl (List.map cI.i64 a45_)) []] (.v (.bool r) []) [] := by
  refine FnO.of Try.func73 (rfl : Try.f73.body = some _) (Nat.le_of_ble_eq_true (by kernel_rfl)) (Nat.le_of_ble_eq_true (by kernel_rfl)) ?_
  intro w0 X0 Fin pv0 pb
  unfold plaws_eqIntS at h
  refine Wc.seq ?_
  refine Wc.region [] [] [0, 1] [] [] ⟨[(0, (.v (.sl (List.map cI.i64 a44_)), [])), (1, (.v (.sl (List.map cI.i64 a45_)), []))], [], []⟩ _ (by kernel_rfl) .nil ?_
  refine Wc.seq ?_
  refine Wc.seq ?_
  refine Wc.region [{}, { v := some (.int .i64 (a44_.length : Int)) }, {}, { v := some (.int .i64 (a45_.length : Int)) }] [] [0, 1, 10] [] [] ⟨[(0, (.v (.sl (List.map cI.i64 a44_)), [])), (1, (.v (.sl (List.map cI.i64 a45_)), [])), (10, (.v (.bool ((a44_.length : Int) != (a45_.length : Int))), []))], [], []⟩ _ (by kernel_rfl) (.cons (len_obl cI.i64 a44_) (.cons (len_obl cI.i64 a45_) .nil)) ?_
  rcases oif h with ⟨h41, h⟩ | ⟨h41, h⟩
  · refine Wc.condT h41 (by kernel_rfl) ?_
    refine Wc.seq ?_
    refine Wc.region [] [] [4] [] [] ⟨[(4, (.v (.bool false), []))], [], []⟩ _ (by kernel_rfl) .nil ?_
    refine Wc.ret ?_
    obtain rfl := Option.some.inj h
    exact ⟨.inl rfl, by kernel_rfl, by kernel_rfl⟩
  · refine Wc.condF h41 (by kernel_rfl) ?_
    refine Wc.fix (st' := ⟨[(0, (.v (.sl (List.map cI.i64 a44_)), [])), (1, (.v (.sl (List.map cI.i64 a45_)), []))], [], []⟩) [] [0, 1] [] [] (by kernel_rfl) ?_
    refine Wc.skip ?_
    refine Wc.seq ?_
    refine Wc.seq ?_
    refine Wc.region [] [] [0, 1, 5] [] [] ⟨[(0, (.v (.sl (List.map cI.i64 a44_)), [])), (1, (.v (.sl (List.map cI.i64 a45_)), [])), (5, (.v (.int .i64 0), []))], [], []⟩ _ (by kernel_rfl) .nil ?_
    obtain ⟨out1, h42, h⟩ := obind h
    refine Wc.lastJ (fun st => out1 = .done () ∧ st = ⟨[], [], []⟩) ?_ ?_
    · refine Wc.block ?_
      refine Wc.loop (fun m st => ∃ (b46_ : Int), st = ⟨[(0, (.v (.sl (List.map cI.i64 a44_)), [])), (1, (.v (.sl (List.map cI.i64 a45_)), [])), (5, (.v (.int .i64 b46_), []))], [], []⟩ ∧ plaws_eqIntS_L1 k a44_ a45_ m b46_ = some out1) ?_ k ⟨_, rfl, h42⟩
      rintro m st ⟨b46_, rfl, h42⟩
      cases m with
      | zero => exact (onone h42).elim
      | succ m =>
        refine Wc.seq ?_
        refine Wc.seq ?_
        refine Wc.region [{}, {}, { v := some (.int .i64 (a44_.length : Int)) }] [] [0, 1, 5, 14] [] [] ⟨[(0, (.v (.sl (List.map cI.i64 a44_)), [])), (1, (.v (.sl (List.map cI.i64 a45_)), [])), (5, (.v (.int .i64 b46_), [])), (14, (.v (.bool (decide (b46_ < (a44_.length : Int)))), []))], [], []⟩ _ (by kernel_rfl) (.cons (len_obl cI.i64 a44_) .nil) ?_
        rcases oif h42 with ⟨h43, h42⟩ | ⟨h43, h42⟩
        · refine Wc.condT h43 (by kernel_rfl) ?_
          refine Wc.fix (st' := ⟨[(0, (.v (.sl (List.map cI.i64 a44_)), [])), (1, (.v (.sl (List.map cI.i64 a45_)), [])), (5, (.v (.int .i64 b46_), []))], [], []⟩) [] [0, 1, 5] [] [] (by kernel_rfl) ?_
          refine Wc.skip ?_
          refine Wc.seq ?_
          refine Wc.block ?_
          refine Wc.seq ?_
          obtain ⟨b47_, h44, h42⟩ := obind h42
          obtain ⟨b48_, h45, h42⟩ := obind h42
          refine Wc.draw hmix [{}, {}, { v := some (.vptr [.int .i64 b47_]) }, {}, {}, {}, { v := some (.vptr [.int .i64 b48_]) }] [] [0, 1, 5, 25] [] [] ⟨[(0, (.v (.sl (List.map cI.i64 a44_)), [])), (1, (.v (.sl (List.map cI.i64 a45_)), [])), (5, (.v (.int .i64 b46_), [])), (25, (.v (.bool (b47_ != b48_)), []))], [], []⟩ _ (by kernel_rfl) (fun X => by kernel_rfl) (.cons (at_obl (c := cI.i64) rfl cI.i64_len h44) (.cons (len_ok 1 [.int .i64 b47_]) (.cons (at_obl (c := cI.i64) rfl cI.i64_len h45) (.cons (len_ok 1 [.int .i64 b48_]) .nil)))) ?_
          rcases oif h42 with ⟨h46, h42⟩ | ⟨h46, h42⟩
          · refine Wc.condT h46 (by kernel_rfl) ?_
            refine Wc.seq ?_
            refine Wc.region [] [] [4] [] [] ⟨[(4, (.v (.bool false), []))], [], []⟩ _ (by kernel_rfl) .nil ?_
            refine Wc.ret ?_
            obtain rfl := Option.some.inj h42
            obtain rfl := Option.some.inj h
            exact ⟨.inl rfl, by kernel_rfl, by kernel_rfl⟩
          · refine Wc.condF h46 (by kernel_rfl) ?_
            refine Wc.fix (st' := ⟨[(0, (.v (.sl (List.map cI.i64 a44_)), [])), (1, (.v (.sl (List.map cI.i64 a45_)), [])), (5, (.v (.int .i64 b46_), []))], [], []⟩) [] [0, 1, 5] [] [] (by kernel_rfl) ?_
            refine Wc.skip ?_
            refine Wc.region [] [] [0, 1, 5] [] [] ⟨[(0, (.v (.sl (List.map cI.i64 a44_)), [])), (1, (.v (.sl (List.map cI.i64 a45_)), [])), (5, (.v (.int .i64 (wr.i64 (b46_ + 1))), []))], [], []⟩ _ (by kernel_rfl) .nil ?_
            exact ⟨_, Nat.lt_succ_self _, _, rfl, h42⟩
        · refine Wc.condF h43 (by kernel_rfl) ?_
          refine Wc.fix (st' := ⟨[], [], []⟩) [] [] [] [] (by kernel_rfl) ?_
          refine Wc.exit ?_
          obtain rfl := Option.some.inj h42
          exact ⟨rfl, rfl⟩
    · rintro st ⟨rfl, rfl⟩
      refine Wc.seq ?_
      refine Wc.region [] [] [4] [] [] ⟨[(4, (.v (.bool true), []))], [], []⟩ _ (by kernel_rfl) .nil ?_
      refine Wc.ret ?_
      obtain rfl := Option.some.inj h
      exact ⟨.inl rfl, by kernel_rfl, by kernel_rfl⟩

/-- laws.eqCell -/
def plaws_eqCell (k : Nat) (c49_ : GCell) (c50_ : GCell) : Option Bool :=
  if (c49_.gKind != c50_.gKind) = true then
    some false
  else
    if (!(sEq c49_.gName c50_.gName)) = true then
      some false
    else
      if (c49_.gNum != c50_.gNum) = true then
        some false
      else
        if (c49_.gTo != c50_.gTo) = true then
          some false
        else
          (plaws_eqIntS k c49_.gKids c50_.gKids).bind fun l51_ =>
          if (!l51_) = true then
            some false
          else
            some true
theorem claws_eqCell {k : Nat} {c49_ : GCell} {c50_ : GCell} {r : Bool} (h : plaws_eqCell k c49_ c50_ = some r) : FnO Try.prog 118 [.v (.agg [.int .i64 c49_.gKind, .str c49_.gName, .int .i64 c49_.gNum, .int .i64 c49_.gTo, .sl (List.map cI.i64 c49_.gKids)]) [], .v (.agg [.int .i64 c50_.gKind, .str c50_.gName, .int .i64 c50_.gNum, .int .i64 c50_.gTo, .sl (List.map cI.i64 c50_.gKids)]) []] (.v (.bool r) []) [] := by
  refine FnO.of Try.func118 (rfl : Try.f118.body = some _) (Nat.le_of_ble_eq_true (by kernel_rfl)) (Nat.le_of_ble_eq_true (by kernel_rfl)) ?_
  intro w0 X0 Fin pv0 pb
  unfold plaws_eqCell at h
  refine Wc.seq ?_
  refine Wc.region [] [] [2, 3] [2, 3] [] ⟨[(2, (.ptr 2 0, [])), (3, (.ptr 3 0, []))], [(2, .cells [.int .i64 c49_.gKind, .str c49_.gName, .int .i64 c49_.gNum, .int .i64 c49_.gTo, .sl (List.map cI.i64 c49_.gKids)] []), (3, .cells [.int .i64 c50_.gKind, .str c50_.gName, .int .i64 c50_.gNum, .int .i64 c50_.gTo, .sl (List.map cI.i64 c50_.gKids)] [])], []⟩ _ (by kernel_rfl) .nil ?_
  refine Wc.seq ?_
  refine Wc.seq ?_
  refine Wc.region [] [] [2, 3, 9] [2, 3] [] ⟨[(2, (.ptr 2 0, [])), (3, (.ptr 3 0, [])), (9, (.v (.bool (c49_.gKind != c50_.gKind)), []))], [(2, .cells [.int .i64 c49_.gKind, .str c49_.gName, .int .i64 c49_.gNum, .int .i64 c49_.gTo, .sl (List.map cI.i64 c49_.gKids)] []), (3, .cells [.int .i64 c50_.gKind, .str c50_.gName, .int .i64 c50_.gNum, .int .i64 c50_.gTo, .sl (List.map cI.i64 c50_.gKids)] [])], []⟩ _ (by kernel_rfl) .nil ?_
  rcases oif h with ⟨h47, h⟩ | ⟨h47, h⟩
  · refine Wc.condT h47 (by kernel_rfl) ?_
    refine Wc.seq ?_
    refine Wc.region [] [] [4] [] [] ⟨[(4, (.v (.bool false), []))], [], []⟩ _ (by kernel_rfl) .nil ?_
    refine Wc.ret ?_
    obtain rfl := Option.some.inj h
    exact ⟨.inl rfl, by kernel_rfl, by kernel_rfl⟩
  · refine Wc.condF h47 (by kernel_rfl) ?_
    refine Wc.fix (st' := ⟨[(2, (.ptr 2 0, [])), (3, (.ptr 3 0, []))], [(2, .cells [.int .i64 c49_.gKind, .str c49_.gName, .int .i64 c49_.gNum, .int .i64 c49_.gTo, .sl (List.map cI.i64 c49_.gKids)] []), (3, .cells [.int .i64 c50_.gKind, .str c50_.gName, .int .i64 c50_.gNum, .int .i64 c50_.gTo, .sl (List.map cI.i64 c50_.gKids)] [])], []⟩) [] [2, 3] [2, 3] [] (by kernel_rfl) ?_
    refine Wc.skip ?_
    refine Wc.seq ?_
    refine Wc.seq ?_
    refine Wc.region [] [] [2, 3, 14] [2, 3] [] ⟨[(2, (.ptr 2 0, [])), (3, (.ptr 3 0, [])), (14, (.v (.bool (!(sEq c49_.gName c50_.gName))), []))], [(2, .cells [.int .i64 c49_.gKind, .str c49_.gName, .int .i64 c49_.gNum, .int .i64 c49_.gTo, .sl (List.map cI.i64 c49_.gKids)] []), (3, .cells [.int .i64 c50_.gKind, .str c50_.gName, .int .i64 c50_.gNum, .int .i64 c50_.gTo, .sl (List.map cI.i64 c50_.gKids)] [])], []⟩ _ (by kernel_rfl) .nil ?_
    rcases oif h with ⟨h48, h⟩ | ⟨h48, h⟩
    · refine Wc.condT h48 (by kernel_rfl) ?_
      refine Wc.seq ?_
      refine Wc.region [] [] [4] [] [] ⟨[(4, (.v (.bool false), []))], [], []⟩ _ (by kernel_rfl) .nil ?_
      refine Wc.ret ?_
      obtain rfl := Option.some.inj h
      exact ⟨.inl rfl, by kernel_rfl, by kernel_rfl⟩
    · refine Wc.condF h48 (by kernel_rfl) ?_
      refine Wc.fix (st' := ⟨[(2, (.ptr 2 0, [])), (3, (.ptr 3 0, []))], [(2, .cells [.int .i64 c49_.gKind, .str c49_.gName, .int .i64 c49_.gNum, .int .i64 c49_.gTo, .sl (List.map cI.i64 c49_.gKids)] []), (3, .cells [.int .i64 c50_.gKind, .str c50_.gName, .int .i64 c50_.gNum, .int .i64 c50_.gTo, .sl (List.map cI.i64 c50_.gKids)] [])], []⟩) [] [2, 3] [2, 3] [] (by kernel_rfl) ?_
      refine Wc.skip ?_
      refine Wc.seq ?_
      refine Wc.seq ?_
      refine Wc.region [] [] [2, 3, 19] [2, 3] [] ⟨[(2, (.ptr 2 0, [])), (3, (.ptr 3 0, [])), (19, (.v (.bool (c49_.gNum != c50_.gNum)), []))], [(2, .cells [.int .i64 c49_.gKind, .str c49_.gName, .int .i64 c49_.gNum, .int .i64 c49_.gTo, .sl (List.map cI.i64 c49_.gKids)] []), (3, .cells [.int .i64 c50_.gKind, .str c50_.gName, .int .i64 c50_.gNum, .int .i64 c50_.gTo, .sl (List.map cI.i64 c50_.gKids)] [])], []⟩ _ (by kernel_rfl) .nil ?_
      rcases oif h with ⟨h49, h⟩ | ⟨h49, h⟩
      · refine Wc.condT h49 (by kernel_rfl) ?_
        refine Wc.seq ?_
        refine Wc.region [] [] [4] [] [] ⟨[(4, (.v (.bool false), []))], [], []⟩ _ (by kernel_rfl) .nil ?_
        refine Wc.ret ?_
        obtain rfl := Option.some.inj h
        exact ⟨.inl rfl, by kernel_rfl, by kernel_rfl⟩
      · refine Wc.condF h49 (by kernel_rfl) ?_
        refine Wc.fix (st' := ⟨[(2, (.ptr 2 0, [])), (3, (.ptr 3 0, []))], [(2, .cells [.int .i64 c49_.gKind, .str c49_.gName, .int .i64 c49_.gNum, .int .i64 c49_.gTo, .sl (List.map cI.i64 c49_.gKids)] []), (3, .cells [.int .i64 c50_.gKind, .str c50_.gName, .int .i64 c50_.gNum, .int .i64 c50_.gTo, .sl (List.map cI.i64 c50_.gKids)] [])], []⟩) [] [2, 3] [2, 3] [] (by kernel_rfl) ?_
        refine Wc.skip ?_
        refine Wc.seq ?_
        refine Wc.seq ?_
        refine Wc.region [] [] [2, 3, 24] [2, 3] [] ⟨[(2, (.ptr 2 0, [])), (3, (.ptr 3 0, [])), (24, (.v (.bool (c49_.gTo != c50_.gTo)), []))], [(2, .cells [.int .i64 c49_.gKind, .str c49_.gName, .int .i64 c49_.gNum, .int .i64 c49_.gTo, .sl (List.map cI.i64 c49_.gKids)] []), (3, .cells [.int .i64 c50_.gKind, .str c50_.gName, .int .i64 c50_.gNum, .int .i64 c50_.gTo, .sl (List.map cI.i64 c50_.gKids)] [])], []⟩ _ (by kernel_rfl) .nil ?_
        rcases oif h with ⟨h50, h⟩ | ⟨h50, h⟩
        · refine Wc.condT h50 (by kernel_rfl) ?_
          refine Wc.seq ?_
          refine Wc.region [] [] [4] [] [] ⟨[(4, (.v (.bool false), []))], [], []⟩ _ (by kernel_rfl) .nil ?_
          refine Wc.ret ?_
          obtain rfl := Option.some.inj h
          exact ⟨.inl rfl, by kernel_rfl, by kernel_rfl⟩
        · refine Wc.condF h50 (by kernel_rfl) ?_
          refine Wc.fix (st' := ⟨[(2, (.ptr 2 0, [])), (3, (.ptr 3 0, []))], [(2, .cells [.int .i64 c49_.gKind, .str c49_.gName, .int .i64 c49_.gNum, .int .i64 c49_.gTo, .sl (List.map cI.i64 c49_.gKids)] []), (3, .cells [.int .i64 c50_.gKind, .str c50_.gName, .int .i64 c50_.gNum, .int .i64 c50_.gTo, .sl (List.map cI.i64 c50_.gKids)] [])], []⟩) [] [2, 3] [2, 3] [] (by kernel_rfl) ?_
          refine Wc.skip ?_
          refine Wc.seq ?_
          refine Wc.seq ?_
          obtain ⟨l51_, h51, h⟩ := obind h
          refine Wc.region [{}, {}, {}, {}, { r := some (.v (.bool l51_) []) }] [] [30] [] [] ⟨[(30, (.v (.bool (!l51_)), []))], [], []⟩ _ (by kernel_rfl) (.cons (claws_eqIntS h51) .nil) ?_
          rcases oif h with ⟨h52, h⟩ | ⟨h52, h⟩
          · refine Wc.condT h52 (by kernel_rfl) ?_
            refine Wc.seq ?_
            refine Wc.region [] [] [4] [] [] ⟨[(4, (.v (.bool false), []))], [], []⟩ _ (by kernel_rfl) .nil ?_
            refine Wc.ret ?_
            obtain rfl := Option.some.inj h
            exact ⟨.inl rfl, by kernel_rfl, by kernel_rfl⟩
          · refine Wc.condF h52 (by kernel_rfl) ?_
            refine Wc.fix (st' := ⟨[], [], []⟩) [] [] [] [] (by kernel_rfl) ?_
            refine Wc.skip ?_
            refine Wc.seq ?_
            refine Wc.region [] [] [4] [] [] ⟨[(4, (.v (.bool true), []))], [], []⟩ _ (by kernel_rfl) .nil ?_
            refine Wc.ret ?_
            obtain rfl := Option.some.inj h
            exact ⟨.inl rfl, by kernel_rfl, by kernel_rfl⟩

def plaws_eqCellS_L1 (k : Nat) (d52_ : List GCell) (d53_ : List GCell) : Nat → Int → Option (Out Bool Unit)
  | 0, _ => none
  | m + 1, b54_ =>
    if (decide (b54_ < (d52_.length : Int))) = true then
      (at' d52_ b54_).bind fun c55_ =>
      (at' d53_ b54_).bind fun c56_ =>
      (plaws_eqCell k c55_ c56_).bind fun l57_ =>
      if (!l57_) = true then
        some (.ret false)
      else
        plaws_eqCellS_L1 k d52_ d53_ m (wr.i64 (b54_ + 1))
    else
      some (.done ())
/-- laws.eqCellS -/
def plaws_eqCellS (k : Nat) (d52_ : List GCell) (d53_ : List GCell) : Option Bool :=
  if ((d52_.length : Int) != (d53_.length : Int)) = true then
    some false
  else
    (plaws_eqCellS_L1 k d52_ d53_ k 0).bind fun out1 => match out1 with
    | .ret r => some r
    | .done () =>
      some true
theorem claws_eqCellS {k : Nat} {d52_ : List GCell} {d53_ : List GCell} {r : Bool} (h : plaws_eqCellS k d52_ d53_ = some r) : FnO Try.prog 72 [.v (.sl (List.map GCell.c d52_)) [], .v (.sl (List.map GCell.c d53_)) []] (.v (.bool r) []) [] := by
  refine FnO.of Try.func72 (rfl : Try.f72.body = some _) (Nat.le_of_ble_eq_true (by kernel_rfl)) (Nat.le_of_ble_eq_true (by kernel_rfl)) ?_
  intro w0 X0 Fin pv0 pb
  unfold plaws_eqCellS at h
  refine Wc.seq ?_
  refine Wc.region [] [] [0, 1] [] [] ⟨[(0, (.v (.sl (List.map GCell.c d52_)), [])), (1, (.v (.sl (List.map GCell.c d53_)), []))], [], []⟩ _ (by kernel_rfl) .nil ?_
  refine Wc.seq ?_
  refine Wc.seq ?_
  refine Wc.region [{}, { v := some (.int .i64 (d52_.length : Int)) }, {}, { v := some (.int .i64 (d53_.length : Int)) }] [] [0, 1, 10] [] [] ⟨[(0, (.v (.sl (List.map GCell.c d52_)), [])), (1, (.v (.sl (List.map GCell.c d53_)), [])), (10, (.v (.bool ((d52_.length : Int) != (d53_.length : Int))), []))], [], []⟩ _ (by kernel_rfl) (.cons (len_obl GCell.c d52_) (.cons (len_obl GCell.c d53_) .nil)) ?_
  rcases oif h with ⟨h53, h⟩ | ⟨h53, h⟩
  · refine Wc.condT h53 (by kernel_rfl) ?_
    refine Wc.seq ?_
    refine Wc.region [] [] [4] [] [] ⟨[(4, (.v (.bool false), []))], [], []⟩ _ (by kernel_rfl) .nil ?_
    refine Wc.ret ?_
    obtain rfl := Option.some.inj h
    exact ⟨.inl rfl, by kernel_rfl, by kernel_rfl⟩
  · refine Wc.condF h53 (by kernel_rfl) ?_
    refine Wc.fix (st' := ⟨[(0, (.v (.sl (List.map GCell.c d52_)), [])), (1, (.v (.sl (List.map GCell.c d53_)), []))], [], []⟩) [] [0, 1] [] [] (by kernel_rfl) ?_
    refine Wc.skip ?_
    refine Wc.seq ?_
    refine Wc.seq ?_
    refine Wc.region [] [] [0, 1, 5] [] [] ⟨[(0, (.v (.sl (List.map GCell.c d52_)), [])), (1, (.v (.sl (List.map GCell.c d53_)), [])), (5, (.v (.int .i64 0), []))], [], []⟩ _ (by kernel_rfl) .nil ?_
    obtain ⟨out1, h54, h⟩ := obind h
    refine Wc.lastJ (fun st => out1 = .done () ∧ st = ⟨[], [], []⟩) ?_ ?_
    · refine Wc.block ?_
      refine Wc.loop (fun m st => ∃ (b54_ : Int), st = ⟨[(0, (.v (.sl (List.map GCell.c d52_)), [])), (1, (.v (.sl (List.map GCell.c d53_)), [])), (5, (.v (.int .i64 b54_), []))], [], []⟩ ∧ plaws_eqCellS_L1 k d52_ d53_ m b54_ = some out1) ?_ k ⟨_, rfl, h54⟩
      rintro m st ⟨b54_, rfl, h54⟩
      cases m with
      | zero => exact (onone h54).elim
      | succ m =>
        refine Wc.seq ?_
        refine Wc.seq ?_
        refine Wc.region [{}, {}, { v := some (.int .i64 (d52_.length : Int)) }] [] [0, 1, 5, 14] [] [] ⟨[(0, (.v (.sl (List.map GCell.c d52_)), [])), (1, (.v (.sl (List.map GCell.c d53_)), [])), (5, (.v (.int .i64 b54_), [])), (14, (.v (.bool (decide (b54_ < (d52_.length : Int)))), []))], [], []⟩ _ (by kernel_rfl) (.cons (len_obl GCell.c d52_) .nil) ?_
        rcases oif h54 with ⟨h55, h54⟩ | ⟨h55, h54⟩
        · refine Wc.condT h55 (by kernel_rfl) ?_
          refine Wc.fix (st' := ⟨[(0, (.v (.sl (List.map GCell.c d52_)), [])), (1, (.v (.sl (List.map GCell.c d53_)), [])), (5, (.v (.int .i64 b54_), []))], [], []⟩) [] [0, 1, 5] [] [] (by kernel_rfl) ?_
          refine Wc.skip ?_
          refine Wc.seq ?_
          refine Wc.block ?_
          refine Wc.seq ?_
          obtain ⟨c55_, h56, h54⟩ := obind h54
          obtain ⟨c56_, h57, h54⟩ := obind h54
          obtain ⟨l57_, h58, h54⟩ := obind h54
          refine Wc.draw hmix [{}, {}, { v := some (.vptr [.int .i64 c55_.gKind, .str c55_.gName, .int .i64 c55_.gNum, .int .i64 c55_.gTo, .sl (List.map cI.i64 c55_.gKids)]) }, {}, {}, {}, { v := some (.vptr [.int .i64 c56_.gKind, .str c56_.gName, .int .i64 c56_.gNum, .int .i64 c56_.gTo, .sl (List.map cI.i64 c56_.gKids)]) }, {}, { r := some (.v (.bool l57_) []) }] [] [0, 1, 5, 26] [] [] ⟨[(0, (.v (.sl (List.map GCell.c d52_)), [])), (1, (.v (.sl (List.map GCell.c d53_)), [])), (5, (.v (.int .i64 b54_), [])), (26, (.v (.bool (!l57_)), []))], [], []⟩ _ (by kernel_rfl) (fun X => by kernel_rfl) (.cons (at_obl (c := GCell.c) (GCell.c_eq c55_) GCell.c_len h56) (.cons (len_ok 5 [.int .i64 c55_.gKind, .str c55_.gName, .int .i64 c55_.gNum, .int .i64 c55_.gTo, .sl (List.map cI.i64 c55_.gKids)]) (.cons (at_obl (c := GCell.c) (GCell.c_eq c56_) GCell.c_len h57) (.cons (len_ok 5 [.int .i64 c56_.gKind, .str c56_.gName, .int .i64 c56_.gNum, .int .i64 c56_.gTo, .sl (List.map cI.i64 c56_.gKids)]) (.cons (claws_eqCell h58) .nil))))) ?_
          rcases oif h54 with ⟨h59, h54⟩ | ⟨h59, h54⟩
          · refine Wc.condT h59 (by kernel_rfl) ?_
            refine Wc.seq ?_
            refine Wc.region [] [] [4] [] [] ⟨[(4, (.v (.bool false), []))], [], []⟩ _ (by kernel_rfl) .nil ?_
            refine Wc.ret ?_
            obtain rfl := Option.some.inj h54
            obtain rfl := Option.some.inj h
            exact ⟨.inl rfl, by kernel_rfl, by kernel_rfl⟩
          · refine Wc.condF h59 (by kernel_rfl) ?_
            refine Wc.fix (st' := ⟨[(0, (.v (.sl (List.map GCell.c d52_)), [])), (1, (.v (.sl (List.map GCell.c d53_)), [])), (5, (.v (.int .i64 b54_), []))], [], []⟩) [] [0, 1, 5] [] [] (by kernel_rfl) ?_
            refine Wc.skip ?_
            refine Wc.region [] [] [0, 1, 5] [] [] ⟨[(0, (.v (.sl (List.map GCell.c d52_)), [])), (1, (.v (.sl (List.map GCell.c d53_)), [])), (5, (.v (.int .i64 (wr.i64 (b54_ + 1))), []))], [], []⟩ _ (by kernel_rfl) .nil ?_
            exact ⟨_, Nat.lt_succ_self _, _, rfl, h54⟩
        · refine Wc.condF h55 (by kernel_rfl) ?_
          refine Wc.fix (st' := ⟨[], [], []⟩) [] [] [] [] (by kernel_rfl) ?_
          refine Wc.exit ?_
          obtain rfl := Option.some.inj h54
          exact ⟨rfl, rfl⟩
    · rintro st ⟨rfl, rfl⟩
      refine Wc.seq ?_
      refine Wc.region [] [] [4] [] [] ⟨[(4, (.v (.bool true), []))], [], []⟩ _ (by kernel_rfl) .nil ?_
      refine Wc.ret ?_
      obtain rfl := Option.some.inj h
      exact ⟨.inl rfl, by kernel_rfl, by kernel_rfl⟩

/-- laws.eqHeap -/
def plaws_eqHeap (k : Nat) (e58_ : GHeap) (e59_ : GHeap) : Option Bool :=
  (plaws_eqCellS k e58_.gCells e59_.gCells).bind fun l60_ =>
  if (!l60_) = true then
    some false
  else
    (plaws_eqIntS k e58_.gTrail e59_.gTrail).bind fun l61_ =>
    if (!l61_) = true then
      some false
    else
      some true
theorem claws_eqHeap {k : Nat} {e58_ : GHeap} {e59_ : GHeap} {r : Bool} (h : plaws_eqHeap k e58_ e59_ = some r) : FnO Try.prog 21 [.v (.agg [.sl (List.map GCell.c e58_.gCells), .sl (List.map cI.i64 e58_.gTrail)]) [], .v (.agg [.sl (List.map GCell.c e59_.gCells), .sl (List.map cI.i64 e59_.gTrail)]) []] (.v (.bool r) []) [] := by
  refine FnO.of Try.func21 (rfl : Try.f21.body = some _) (Nat.le_of_ble_eq_true (by kernel_rfl)) (Nat.le_of_ble_eq_true (by kernel_rfl)) ?_
  intro w0 X0 Fin pv0 pb
  unfold plaws_eqHeap at h
  refine Wc.seq ?_
  refine Wc.region [] [] [2, 3] [2, 3] [] ⟨[(2, (.ptr 2 0, [])), (3, (.ptr 3 0, []))], [(2, .cells [.sl (List.map GCell.c e58_.gCells), .sl (List.map cI.i64 e58_.gTrail)] []), (3, .cells [.sl (List.map GCell.c e59_.gCells), .sl (List.map cI.i64 e59_.gTrail)] [])], []⟩ _ (by kernel_rfl) .nil ?_
  refine Wc.seq ?_
  refine Wc.seq ?_
  obtain ⟨l60_, h60, h⟩ := obind h
  refine Wc.region [{}, {}, {}, {}, { r := some (.v (.bool l60_) []) }] [] [2, 3, 10] [2, 3] [] ⟨[(2, (.ptr 2 0, [])), (3, (.ptr 3 0, [])), (10, (.v (.bool (!l60_)), []))], [(2, .cells [.sl (List.map GCell.c e58_.gCells), .sl (List.map cI.i64 e58_.gTrail)] []), (3, .cells [.sl (List.map GCell.c e59_.gCells), .sl (List.map cI.i64 e59_.gTrail)] [])], []⟩ _ (by kernel_rfl) (.cons (claws_eqCellS h60) .nil) ?_
  rcases oif h with ⟨h61, h⟩ | ⟨h61, h⟩
  · refine Wc.condT h61 (by kernel_rfl) ?_
    refine Wc.seq ?_
    refine Wc.region [] [] [4] [] [] ⟨[(4, (.v (.bool false), []))], [], []⟩ _ (by kernel_rfl) .nil ?_
    refine Wc.ret ?_
    obtain rfl := Option.some.inj h
    exact ⟨.inl rfl, by kernel_rfl, by kernel_rfl⟩
  · refine Wc.condF h61 (by kernel_rfl) ?_
    refine Wc.fix (st' := ⟨[(2, (.ptr 2 0, [])), (3, (.ptr 3 0, []))], [(2, .cells [.sl (List.map GCell.c e58_.gCells), .sl (List.map cI.i64 e58_.gTrail)] []), (3, .cells [.sl (List.map GCell.c e59_.gCells), .sl (List.map cI.i64 e59_.gTrail)] [])], []⟩) [] [2, 3] [2, 3] [] (by kernel_rfl) ?_
    refine Wc.skip ?_
    refine Wc.seq ?_
    refine Wc.seq ?_
    obtain ⟨l61_, h62, h⟩ := obind h
    refine Wc.region [{}, {}, {}, {}, { r := some (.v (.bool l61_) []) }] [] [16] [] [] ⟨[(16, (.v (.bool (!l61_)), []))], [], []⟩ _ (by kernel_rfl) (.cons (claws_eqIntS h62) .nil) ?_
    rcases oif h with ⟨h63, h⟩ | ⟨h63, h⟩
    · refine Wc.condT h63 (by kernel_rfl) ?_
      refine Wc.seq ?_
      refine Wc.region [] [] [4] [] [] ⟨[(4, (.v (.bool false), []))], [], []⟩ _ (by kernel_rfl) .nil ?_
      refine Wc.ret ?_
      obtain rfl := Option.some.inj h
      exact ⟨.inl rfl, by kernel_rfl, by kernel_rfl⟩
    · refine Wc.condF h63 (by kernel_rfl) ?_
      refine Wc.fix (st' := ⟨[], [], []⟩) [] [] [] [] (by kernel_rfl) ?_
      refine Wc.skip ?_
      refine Wc.seq ?_
      refine Wc.region [] [] [4] [] [] ⟨[(4, (.v (.bool true), []))], [], []⟩ _ (by kernel_rfl) .nil ?_
      refine Wc.ret ?_
      obtain rfl := Option.some.inj h
      exact ⟨.inl rfl, by kernel_rfl, by kernel_rfl⟩

def plaws_markIntS_L1 (k : Nat) : Nat → Int → Int → (List Int) → Option (Out ((List Int) × Int) (Int × (List Int)))
  | 0, _, _, _ => none
  | m + 1, b64_, b65_, a66_ =>
    if (decide (b65_ < (a66_.length : Int))) = true then
      (at' a66_ b65_).bind fun b69_ =>
      plaws_markIntS_L1 k m (wr.i64 (b64_ + 1)) (wr.i64 (b65_ + 1)) (a66_.set ((b65_).toNat) b64_)
    else
      some (.done (b64_, a66_))
/-- laws.markIntS -/
def plaws_markIntS (k : Nat) (a62_ : List Int) (b63_ : Int) : Option ((List Int) × Int) :=
  (plaws_markIntS_L1 k k b63_ 0 a62_).bind fun out1 => match out1 with
  | .ret r => some r
  | .done (b67_, a68_) =>
    some (a68_, b67_)
theorem claws_markIntS {k : Nat} {a62_ : List Int} {b63_ : Int} {r : (List Int) × Int} (h : plaws_markIntS k a62_ b63_ = some r) : FnO Try.prog 75 [.io (.slx) [(0, .ex 1000000007 true (List.map cI.i64 a62_))], .v (.int .i64 b63_) []] (.v (.int .i64 r.2) []) [(0, .v .undef [(0, .ex 1000000007 true (List.map cI.i64 r.1))])] := by
  refine FnO.of Try.func75 (rfl : Try.f75.body = some _) (Nat.le_of_ble_eq_true (by kernel_rfl)) (Nat.le_of_ble_eq_true (by kernel_rfl)) ?_
  intro w0 X0 Fin pv0 pb
  unfold plaws_markIntS at h
  refine Wc.seq ?_
  refine Wc.region [] [] [0, 1] [] [0] ⟨[(0, (.v (.slx), [(0, .al (.a 0 0) [])])), (1, (.v (.int .i64 b63_), []))], [], [(0, [(0, .ex 1000000007 true (List.map cI.i64 a62_))])]⟩ _ (by kernel_rfl) .nil ?_
  refine Wc.seq ?_
  refine Wc.seq ?_
  refine Wc.region [] [] [0, 1, 5] [] [0] ⟨[(0, (.v (.slx), [(0, .al (.a 0 0) [])])), (1, (.v (.int .i64 b63_), [])), (5, (.v (.int .i64 0), []))], [], [(0, [(0, .ex 1000000007 true (List.map cI.i64 a62_))])]⟩ _ (by kernel_rfl) .nil ?_
  obtain ⟨out1, h64, h⟩ := obind h
  refine Wc.lastJ (fun st => ∃ (b67_ : Int) (a68_ : List Int), out1 = .done (b67_, a68_) ∧ st = ⟨[(1, (.v (.int .i64 b67_), []))], [], [(0, [(0, .ex 1000000007 true (List.map cI.i64 a68_))])]⟩) ?_ ?_
  · refine Wc.block ?_
    refine Wc.loop (fun m st => ∃ (b64_ : Int) (b65_ : Int) (a66_ : List Int), st = ⟨[(0, (.v (.slx), [(0, .al (.a 0 0) [])])), (1, (.v (.int .i64 b64_), [])), (5, (.v (.int .i64 b65_), []))], [], [(0, [(0, .ex 1000000007 true (List.map cI.i64 a66_))])]⟩ ∧ plaws_markIntS_L1 k m b64_ b65_ a66_ = some out1) ?_ k ⟨_, _, _, rfl, h64⟩
    rintro m st ⟨b64_, b65_, a66_, rfl, h64⟩
    cases m with
    | zero => exact (onone h64).elim
    | succ m =>
      refine Wc.seq ?_
      refine Wc.seq ?_
      refine Wc.region [{}, {}, { v := some (.int .i64 (a66_.length : Int)) }] [] [0, 1, 5, 9] [] [0] ⟨[(0, (.v (.slx), [(0, .al (.a 0 0) [])])), (1, (.v (.int .i64 b64_), [])), (5, (.v (.int .i64 b65_), [])), (9, (.v (.bool (decide (b65_ < (a66_.length : Int)))), []))], [], [(0, [(0, .ex 1000000007 true (List.map cI.i64 a66_))])]⟩ _ (by kernel_rfl) (.cons (len_obl cI.i64 a66_) .nil) ?_
      rcases oif h64 with ⟨h65, h64⟩ | ⟨h65, h64⟩
      · refine Wc.condT h65 (by kernel_rfl) ?_
        refine Wc.fix (st' := ⟨[(0, (.v (.slx), [(0, .al (.a 0 0) [])])), (1, (.v (.int .i64 b64_), [])), (5, (.v (.int .i64 b65_), []))], [], [(0, [(0, .ex 1000000007 true (List.map cI.i64 a66_))])]⟩) [] [0, 1, 5] [] [0] (by kernel_rfl) ?_
        refine Wc.skip ?_
        refine Wc.seq ?_
        refine Wc.block ?_
        refine Wc.seq ?_
        obtain ⟨b69_, h66, h64⟩ := obind h64
        refine Wc.region [{}, {}, {}, {}, { c := some (List.map cI.i64 (a66_.set ((b65_).toNat) b64_)) }] [] [0, 1, 5] [] [0] ⟨[(0, (.v (.slx), [(0, .al (.a 0 0) [])])), (1, (.v (.int .i64 b64_), [])), (5, (.v (.int .i64 b65_), []))], [], [(0, [(0, .ex 1000000007 true (List.map cI.i64 (a66_.set ((b65_).toNat) b64_)))])]⟩ _ (by kernel_rfl) (.cons (ix_obl (c := cI.i64) cI.i64_len h66) (.cons (mod_obl (off := 0) (new := [.int .i64 b64_]) (c := cI.i64) rfl rfl (at'_spec h66).2 rfl) (.cons (st_obl (sz := 1) (off := 0) (s := 1) (c := cI.i64) rfl (at'_spec h66).2 rfl (Nat.le_of_ble_eq_true rfl)) .nil))) ?_
        refine Wc.region [] [] [0, 1, 5] [] [0] ⟨[(0, (.v (.slx), [(0, .al (.a 0 0) [])])), (1, (.v (.int .i64 (wr.i64 (b64_ + 1))), [])), (5, (.v (.int .i64 b65_), []))], [], [(0, [(0, .ex 1000000007 true (List.map cI.i64 (a66_.set ((b65_).toNat) b64_)))])]⟩ _ (by kernel_rfl) .nil ?_
        refine Wc.region [] [] [0, 1, 5] [] [0] ⟨[(0, (.v (.slx), [(0, .al (.a 0 0) [])])), (1, (.v (.int .i64 (wr.i64 (b64_ + 1))), [])), (5, (.v (.int .i64 (wr.i64 (b65_ + 1))), []))], [], [(0, [(0, .ex 1000000007 true (List.map cI.i64 (a66_.set ((b65_).toNat) b64_)))])]⟩ _ (by kernel_rfl) .nil ?_
        exact ⟨_, Nat.lt_succ_self _, _, _, _, rfl, h64⟩
      · refine Wc.condF h65 (by kernel_rfl) ?_
        refine Wc.fix (st' := ⟨[(1, (.v (.int .i64 b64_), []))], [], [(0, [(0, .ex 1000000007 true (List.map cI.i64 a66_))])]⟩) [] [1] [] [0] (by kernel_rfl) ?_
        refine Wc.exit ?_
        obtain rfl := Option.some.inj h64
        exact ⟨_, _, rfl, rfl⟩
  · rintro st ⟨b67_, a68_, rfl, rfl⟩
    refine Wc.seq ?_
    refine Wc.region [] [] [4] [] [0] ⟨[(4, (.v (.int .i64 b67_), []))], [], [(0, [(0, .ex 1000000007 true (List.map cI.i64 a68_))])]⟩ _ (by kernel_rfl) .nil ?_
    refine Wc.ret ?_
    obtain rfl := Option.some.inj h
    exact ⟨.inl rfl, by kernel_rfl, by kernel_rfl⟩

def plaws_markText_L1 (k : Nat) : Nat → Int → ByteArray → Option (Out ByteArray ByteArray)
  | 0, _, _ => none
  | m + 1, b71_, m72_ =>
    if (decide (b71_ > 0)) = true then
      if (10 : Int) ≠ 0 then
        if sumOk (strOfNums [wr.u8 (wr.i64 (48 + (Int.tmod b71_ 10)))]) m72_ then
          if (10 : Int) ≠ 0 then
            plaws_markText_L1 k m (wr.i64 (Int.tdiv b71_ 10)) ((strOfNums [wr.u8 (wr.i64 (48 + (Int.tmod b71_ 10)))]) ++ m72_)
          else none
        else none
      else none
    else
      some (.done m72_)
/-- laws.markText -/
def plaws_markText (k : Nat) (b70_ : Int) : Option ByteArray :=
  if (decide (b70_ ≤ 0)) = true then
    some (bs [109, 48])
  else
    (plaws_markText_L1 k k b70_ (bs [])).bind fun out1 => match out1 with
    | .ret r => some r
    | .done m73_ =>
      if sumOk (bs [109]) m73_ then
        some ((bs [109]) ++ m73_)
      else none
theorem claws_markText {k : Nat} {b70_ : Int} {r : ByteArray} (h : plaws_markText k b70_ = some r) : FnO Try.prog 108 [.v (.int .i64 b70_) []] (.v (.str r) []) [] := by
  refine FnO.of Try.func108 (rfl : Try.f108.body = some _) (Nat.le_of_ble_eq_true (by kernel_rfl)) (Nat.le_of_ble_eq_true (by kernel_rfl)) ?_
  intro w0 X0 Fin pv0 pb
  unfold plaws_markText at h
  refine Wc.seq ?_
  refine Wc.region [] [] [0] [] [] ⟨[(0, (.v (.int .i64 b70_), []))], [], []⟩ _ (by kernel_rfl) .nil ?_
  refine Wc.seq ?_
  refine Wc.seq ?_
  refine Wc.region [] [] [0, 5] [] [] ⟨[(0, (.v (.int .i64 b70_), [])), (5, (.v (.bool (decide (b70_ ≤ 0))), []))], [], []⟩ _ (by kernel_rfl) .nil ?_
  rcases oif h with ⟨h67, h⟩ | ⟨h67, h⟩
  · refine Wc.condT h67 (by kernel_rfl) ?_
    refine Wc.seq ?_
    refine Wc.region [] [] [2] [] [] ⟨[(2, (.v (.str (bs [109, 48])), []))], [], []⟩ _ (by kernel_rfl) .nil ?_
    refine Wc.ret ?_
    obtain rfl := Option.some.inj h
    exact ⟨.inl rfl, by kernel_rfl, by kernel_rfl⟩
  · refine Wc.condF h67 (by kernel_rfl) ?_
    refine Wc.fix (st' := ⟨[(0, (.v (.int .i64 b70_), []))], [], []⟩) [] [0] [] [] (by kernel_rfl) ?_
    refine Wc.skip ?_
    refine Wc.seq ?_
    refine Wc.region [] [] [0, 3] [] [] ⟨[(0, (.v (.int .i64 b70_), [])), (3, (.v (.str (bs [])), []))], [], []⟩ _ (by kernel_rfl) .nil ?_
    obtain ⟨out1, h68, h⟩ := obind h
    refine Wc.seqJ (fun st => ∃ (m73_ : ByteArray), out1 = .done m73_ ∧ st = ⟨[(3, (.v (.str m73_), []))], [], []⟩) ?_ ?_
    · refine Wc.block ?_
      refine Wc.loop (fun m st => ∃ (b71_ : Int) (m72_ : ByteArray), st = ⟨[(0, (.v (.int .i64 b71_), [])), (3, (.v (.str m72_), []))], [], []⟩ ∧ plaws_markText_L1 k m b71_ m72_ = some out1) ?_ k ⟨_, _, rfl, h68⟩
      rintro m st ⟨b71_, m72_, rfl, h68⟩
      cases m with
      | zero => exact (onone h68).elim
      | succ m =>
        refine Wc.seq ?_
        refine Wc.seq ?_
        refine Wc.region [] [] [0, 3, 7] [] [] ⟨[(0, (.v (.int .i64 b71_), [])), (3, (.v (.str m72_), [])), (7, (.v (.bool (decide (b71_ > 0))), []))], [], []⟩ _ (by kernel_rfl) .nil ?_
        rcases oif h68 with ⟨h69, h68⟩ | ⟨h69, h68⟩
        · refine Wc.condT h69 (by kernel_rfl) ?_
          refine Wc.fix (st' := ⟨[(0, (.v (.int .i64 b71_), [])), (3, (.v (.str m72_), []))], [], []⟩) [] [0, 3] [] [] (by kernel_rfl) ?_
          refine Wc.skip ?_
          refine Wc.block ?_
          refine Wc.seq ?_
          obtain ⟨h70, h68⟩ := oguard h68
          obtain ⟨h71, h68⟩ := oguard h68
          refine Wc.region [{}, {}, {}, {}, { c := some (List.map cI.u8 [wr.u8 (wr.i64 (48 + (Int.tmod b71_ 10)))]) }, { v := some (.str (strOfNums [wr.u8 (wr.i64 (48 + (Int.tmod b71_ 10)))])) }] [] [0, 3] [] [] ⟨[(0, (.v (.int .i64 b71_), [])), (3, (.v (.str ((strOfNums [wr.u8 (wr.i64 (48 + (Int.tmod b71_ 10)))]) ++ m72_)), []))], [], []⟩ _ (by kernel_rfl) (.cons h70 (.cons (cl_cons (c := cI.u8) (x := wr.u8 (wr.i64 (48 + (Int.tmod b71_ 10)))) rfl (cl_nil cI.u8)) (.cons (bytes_obl [wr.u8 (wr.i64 (48 + (Int.tmod b71_ 10)))]) (.cons h71 .nil)))) ?_
          obtain ⟨h72, h68⟩ := oguard h68
          refine Wc.region [] [] [0, 3] [] [] ⟨[(0, (.v (.int .i64 (wr.i64 (Int.tdiv b71_ 10))), [])), (3, (.v (.str ((strOfNums [wr.u8 (wr.i64 (48 + (Int.tmod b71_ 10)))]) ++ m72_)), []))], [], []⟩ _ (by kernel_rfl) (.cons h72 .nil) ?_
          exact ⟨_, Nat.lt_succ_self _, _, _, rfl, h68⟩
        · refine Wc.condF h69 (by kernel_rfl) ?_
          refine Wc.fix (st' := ⟨[(3, (.v (.str m72_), []))], [], []⟩) [] [3] [] [] (by kernel_rfl) ?_
          refine Wc.exit ?_
          obtain rfl := Option.some.inj h68
          exact ⟨_, rfl, rfl⟩
    · rintro st ⟨m73_, rfl, rfl⟩
      refine Wc.seq ?_
      obtain ⟨h73, h⟩ := oguard h
      refine Wc.region [] [] [2] [] [] ⟨[(2, (.v (.str ((bs [109]) ++ m73_)), []))], [], []⟩ _ (by kernel_rfl) (.cons h73 .nil) ?_
      refine Wc.ret ?_
      obtain rfl := Option.some.inj h
      exact ⟨.inl rfl, by kernel_rfl, by kernel_rfl⟩

def plaws_markCellS_L1 (k : Nat) : Nat → Int → Int → (List GCell) → Option (Out ((List GCell) × Int) (Int × (List GCell)))
  | 0, _, _, _ => none
  | m + 1, b76_, b77_, d78_ =>
    if (decide (b77_ < (d78_.length : Int))) = true then
      (at' d78_ b77_).bind fun c81_ =>
      (plaws_markText k (wr.i64 (b76_ + 1))).bind fun m82_ =>
      (at' (d78_.set ((b77_).toNat) (GCell.mk b76_ c81_.gName c81_.gNum c81_.gTo c81_.gKids)) b77_).bind fun c83_ =>
      (at' ((d78_.set ((b77_).toNat) (GCell.mk b76_ c81_.gName c81_.gNum c81_.gTo c81_.gKids)).set ((b77_).toNat) (GCell.mk c83_.gKind m82_ c83_.gNum c83_.gTo c83_.gKids)) b77_).bind fun c84_ =>
      (at' (((d78_.set ((b77_).toNat) (GCell.mk b76_ c81_.gName c81_.gNum c81_.gTo c81_.gKids)).set ((b77_).toNat) (GCell.mk c83_.gKind m82_ c83_.gNum c83_.gTo c83_.gKids)).set ((b77_).toNat) (GCell.mk c84_.gKind c84_.gName (wr.i64 ((wr.i64 (b76_ + 1)) + 1)) c84_.gTo c84_.gKids)) b77_).bind fun c85_ =>
      (at' ((((d78_.set ((b77_).toNat) (GCell.mk b76_ c81_.gName c81_.gNum c81_.gTo c81_.gKids)).set ((b77_).toNat) (GCell.mk c83_.gKind m82_ c83_.gNum c83_.gTo c83_.gKids)).set ((b77_).toNat) (GCell.mk c84_.gKind c84_.gName (wr.i64 ((wr.i64 (b76_ + 1)) + 1)) c84_.gTo c84_.gKids)).set ((b77_).toNat) (GCell.mk c85_.gKind c85_.gName c85_.gNum (wr.i64 ((wr.i64 ((wr.i64 (b76_ + 1)) + 1)) + 1)) c85_.gKids)) b77_).bind fun c86_ =>
      (plaws_markIntS k c86_.gKids (wr.i64 ((wr.i64 ((wr.i64 ((wr.i64 (b76_ + 1)) + 1)) + 1)) + 1))).bind fun n87_ =>
      plaws_markCellS_L1 k m n87_.2 (wr.i64 (b77_ + 1)) (((((d78_.set ((b77_).toNat) (GCell.mk b76_ c81_.gName c81_.gNum c81_.gTo c81_.gKids)).set ((b77_).toNat) (GCell.mk c83_.gKind m82_ c83_.gNum c83_.gTo c83_.gKids)).set ((b77_).toNat) (GCell.mk c84_.gKind c84_.gName (wr.i64 ((wr.i64 (b76_ + 1)) + 1)) c84_.gTo c84_.gKids)).set ((b77_).toNat) (GCell.mk c85_.gKind c85_.gName c85_.gNum (wr.i64 ((wr.i64 ((wr.i64 (b76_ + 1)) + 1)) + 1)) c85_.gKids)).set ((b77_).toNat) (GCell.mk c86_.gKind c86_.gName c86_.gNum c86_.gTo n87_.1))
    else
      some (.done (b76_, d78_))
/-- laws.markCellS -/
def plaws_markCellS (k : Nat) (d74_ : List GCell) (b75_ : Int) : Option ((List GCell) × Int) :=
  (plaws_markCellS_L1 k k b75_ 0 d74_).bind fun out1 => match out1 with
  | .ret r => some r
  | .done (b79_, d80_) =>
    some (d80_, b79_)
set_option maxHeartbeats 4000000 in
theorem claws_markCellS {k : Nat} {d74_ : List GCell} {b75_ : Int} {r : (List GCell) × Int} (h : plaws_markCellS k d74_ b75_ = some r) : FnO Try.prog 74 [.io (.slx) [(0, .ex 1000000007 true (List.map GCell.c d74_))], .v (.int .i64 b75_) []] (.v (.int .i64 r.2) []) [(0, .v .undef [(0, .ex 1000000007 true (List.map GCell.c r.1))])] := by
  refine FnO.of Try.func74 (rfl : Try.f74.body = some _) (Nat.le_of_ble_eq_true (by kernel_rfl)) (Nat.le_of_ble_eq_true (by kernel_rfl)) ?_
  intro w0 X0 Fin pv0 pb
  unfold plaws_markCellS at h
  refine Wc.seq ?_
  refine Wc.region [] [] [0, 1] [] [0] ⟨[(0, (.v (.slx), [(0, .al (.a 0 0) [])])), (1, (.v (.int .i64 b75_), []))], [], [(0, [(0, .ex 1000000007 true (List.map GCell.c d74_))])]⟩ _ (by kernel_rfl) .nil ?_
  refine Wc.seq ?_
  refine Wc.seq ?_
  refine Wc.region [] [] [0, 1, 5] [] [0] ⟨[(0, (.v (.slx), [(0, .al (.a 0 0) [])])), (1, (.v (.int .i64 b75_), [])), (5, (.v (.int .i64 0), []))], [], [(0, [(0, .ex 1000000007 true (List.map GCell.c d74_))])]⟩ _ (by kernel_rfl) .nil ?_
  obtain ⟨out1, h74, h⟩ := obind h
  refine Wc.lastJ (fun st => ∃ (b79_ : Int) (d80_ : List GCell), out1 = .done (b79_, d80_) ∧ st = ⟨[(1, (.v (.int .i64 b79_), []))], [], [(0, [(0, .ex 1000000007 true (List.map GCell.c d80_))])]⟩) ?_ ?_
  · refine Wc.block ?_
    refine Wc.loop (fun m st => ∃ (b76_ : Int) (b77_ : Int) (d78_ : List GCell), st = ⟨[(0, (.v (.slx), [(0, .al (.a 0 0) [])])), (1, (.v (.int .i64 b76_), [])), (5, (.v (.int .i64 b77_), []))], [], [(0, [(0, .ex 1000000007 true (List.map GCell.c d78_))])]⟩ ∧ plaws_markCellS_L1 k m b76_ b77_ d78_ = some out1) ?_ k ⟨_, _, _, rfl, h74⟩
    rintro m st ⟨b76_, b77_, d78_, rfl, h74⟩
    cases m with
    | zero => exact (onone h74).elim
    | succ m =>
      refine Wc.seq ?_
      refine Wc.seq ?_
      refine Wc.region [{}, {}, { v := some (.int .i64 (d78_.length : Int)) }] [] [0, 1, 5, 9] [] [0] ⟨[(0, (.v (.slx), [(0, .al (.a 0 0) [])])), (1, (.v (.int .i64 b76_), [])), (5, (.v (.int .i64 b77_), [])), (9, (.v (.bool (decide (b77_ < (d78_.length : Int)))), []))], [], [(0, [(0, .ex 1000000007 true (List.map GCell.c d78_))])]⟩ _ (by kernel_rfl) (.cons (len_obl GCell.c d78_) .nil) ?_
      rcases oif h74 with ⟨h75, h74⟩ | ⟨h75, h74⟩
      · refine Wc.condT h75 (by kernel_rfl) ?_
        refine Wc.fix (st' := ⟨[(0, (.v (.slx), [(0, .al (.a 0 0) [])])), (1, (.v (.int .i64 b76_), [])), (5, (.v (.int .i64 b77_), []))], [], [(0, [(0, .ex 1000000007 true (List.map GCell.c d78_))])]⟩) [] [0, 1, 5] [] [0] (by kernel_rfl) ?_
        refine Wc.skip ?_
        refine Wc.seq ?_
        refine Wc.block ?_
        refine Wc.seq ?_
        obtain ⟨c81_, h76, h74⟩ := obind h74
        refine Wc.region [{}, {}, {}, {}, {}, { c := some (List.map GCell.c (d78_.set ((b77_).toNat) (GCell.mk b76_ c81_.gName c81_.gNum c81_.gTo c81_.gKids))) }] [] [0, 1, 5] [] [0] ⟨[(0, (.v (.slx), [(0, .al (.a 0 0) [])])), (1, (.v (.int .i64 b76_), [])), (5, (.v (.int .i64 b77_), []))], [], [(0, [(0, .ex 1000000007 true (List.map GCell.c (d78_.set ((b77_).toNat) (GCell.mk b76_ c81_.gName c81_.gNum c81_.gTo c81_.gKids))))])]⟩ _ (by kernel_rfl) (.cons (ix_obl (c := GCell.c) GCell.c_len h76) (.cons (mod_obl (off := 0) (new := [.int .i64 b76_]) (c := GCell.c) (GCell.c_eq c81_) (GCell.c_eq (GCell.mk b76_ c81_.gName c81_.gNum c81_.gTo c81_.gKids)) (at'_spec h76).2 rfl) (.cons (st_obl (sz := 5) (off := 0) (s := 1) (c := GCell.c) (GCell.c_eq c81_) (at'_spec h76).2 rfl (Nat.le_of_ble_eq_true rfl)) .nil))) ?_
        refine Wc.seq ?_
        refine Wc.region [] [] [0, 1, 5] [] [0] ⟨[(0, (.v (.slx), [(0, .al (.a 0 0) [])])), (1, (.v (.int .i64 (wr.i64 (b76_ + 1))), [])), (5, (.v (.int .i64 b77_), []))], [], [(0, [(0, .ex 1000000007 true (List.map GCell.c (d78_.set ((b77_).toNat) (GCell.mk b76_ c81_.gName c81_.gNum c81_.gTo c81_.gKids))))])]⟩ _ (by kernel_rfl) .nil ?_
        refine Wc.seq ?_
        obtain ⟨m82_, h77, h74⟩ := obind h74
        obtain ⟨c83_, h78, h74⟩ := obind h74
        refine Wc.region [{}, {}, {}, { r := some (.v (.str m82_) []) }, {}, {}, { c := some (List.map GCell.c ((d78_.set ((b77_).toNat) (GCell.mk b76_ c81_.gName c81_.gNum c81_.gTo c81_.gKids)).set ((b77_).toNat) (GCell.mk c83_.gKind m82_ c83_.gNum c83_.gTo c83_.gKids))) }] [] [0, 1, 5] [] [0] ⟨[(0, (.v (.slx), [(0, .al (.a 0 0) [])])), (1, (.v (.int .i64 (wr.i64 (b76_ + 1))), [])), (5, (.v (.int .i64 b77_), []))], [], [(0, [(0, .ex 1000000007 true (List.map GCell.c ((d78_.set ((b77_).toNat) (GCell.mk b76_ c81_.gName c81_.gNum c81_.gTo c81_.gKids)).set ((b77_).toNat) (GCell.mk c83_.gKind m82_ c83_.gNum c83_.gTo c83_.gKids))))])]⟩ _ (by kernel_rfl) (.cons (claws_markText h77) (.cons (ix_obl (c := GCell.c) GCell.c_len h78) (.cons (mod_obl (off := 1) (new := [.str m82_]) (c := GCell.c) (GCell.c_eq c83_) (GCell.c_eq (GCell.mk c83_.gKind m82_ c83_.gNum c83_.gTo c83_.gKids)) (at'_spec h78).2 rfl) (.cons (st_obl (sz := 5) (off := 1) (s := 1) (c := GCell.c) (GCell.c_eq c83_) (at'_spec h78).2 rfl (Nat.le_of_ble_eq_true rfl)) .nil)))) ?_
        refine Wc.seq ?_
        refine Wc.region [] [] [0, 1, 5] [] [0] ⟨[(0, (.v (.slx), [(0, .al (.a 0 0) [])])), (1, (.v (.int .i64 (wr.i64 ((wr.i64 (b76_ + 1)) + 1))), [])), (5, (.v (.int .i64 b77_), []))], [], [(0, [(0, .ex 1000000007 true (List.map GCell.c ((d78_.set ((b77_).toNat) (GCell.mk b76_ c81_.gName c81_.gNum c81_.gTo c81_.gKids)).set ((b77_).toNat) (GCell.mk c83_.gKind m82_ c83_.gNum c83_.gTo c83_.gKids))))])]⟩ _ (by kernel_rfl) .nil ?_
        refine Wc.seq ?_
        obtain ⟨c84_, h79, h74⟩ := obind h74
        refine Wc.region [{}, {}, {}, {}, {}, { c := some (List.map GCell.c (((d78_.set ((b77_).toNat) (GCell.mk b76_ c81_.gName c81_.gNum c81_.gTo c81_.gKids)).set ((b77_).toNat) (GCell.mk c83_.gKind m82_ c83_.gNum c83_.gTo c83_.gKids)).set ((b77_).toNat) (GCell.mk c84_.gKind c84_.gName (wr.i64 ((wr.i64 (b76_ + 1)) + 1)) c84_.gTo c84_.gKids))) }] [] [0, 1, 5] [] [0] ⟨[(0, (.v (.slx), [(0, .al (.a 0 0) [])])), (1, (.v (.int .i64 (wr.i64 ((wr.i64 (b76_ + 1)) + 1))), [])), (5, (.v (.int .i64 b77_), []))], [], [(0, [(0, .ex 1000000007 true (List.map GCell.c (((d78_.set ((b77_).toNat) (GCell.mk b76_ c81_.gName c81_.gNum c81_.gTo c81_.gKids)).set ((b77_).toNat) (GCell.mk c83_.gKind m82_ c83_.gNum c83_.gTo c83_.gKids)).set ((b77_).toNat) (GCell.mk c84_.gKind c84_.gName (wr.i64 ((wr.i64 (b76_ + 1)) + 1)) c84_.gTo c84_.gKids))))])]⟩ _ (by kernel_rfl) (.cons (ix_obl (c := GCell.c) GCell.c_len h79) (.cons (mod_obl (off := 2) (new := [.int .i64 (wr.i64 ((wr.i64 (b76_ + 1)) + 1))]) (c := GCell.c) (GCell.c_eq c84_) (GCell.c_eq (GCell.mk c84_.gKind c84_.gName (wr.i64 ((wr.i64 (b76_ + 1)) + 1)) c84_.gTo c84_.gKids)) (at'_spec h79).2 rfl) (.cons (st_obl (sz := 5) (off := 2) (s := 1) (c := GCell.c) (GCell.c_eq c84_) (at'_spec h79).2 rfl (Nat.le_of_ble_eq_true rfl)) .nil))) ?_
        refine Wc.seq ?_
        refine Wc.region [] [] [0, 1, 5] [] [0] ⟨[(0, (.v (.slx), [(0, .al (.a 0 0) [])])), (1, (.v (.int .i64 (wr.i64 ((wr.i64 ((wr.i64 (b76_ + 1)) + 1)) + 1))), [])), (5, (.v (.int .i64 b77_), []))], [], [(0, [(0, .ex 1000000007 true (List.map GCell.c (((d78_.set ((b77_).toNat) (GCell.mk b76_ c81_.gName c81_.gNum c81_.gTo c81_.gKids)).set ((b77_).toNat) (GCell.mk c83_.gKind m82_ c83_.gNum c83_.gTo c83_.gKids)).set ((b77_).toNat) (GCell.mk c84_.gKind c84_.gName (wr.i64 ((wr.i64 (b76_ + 1)) + 1)) c84_.gTo c84_.gKids))))])]⟩ _ (by kernel_rfl) .nil ?_
        refine Wc.seq ?_
        obtain ⟨c85_, h80, h74⟩ := obind h74
        refine Wc.region [{}, {}, {}, {}, {}, { c := some (List.map GCell.c ((((d78_.set ((b77_).toNat) (GCell.mk b76_ c81_.gName c81_.gNum c81_.gTo c81_.gKids)).set ((b77_).toNat) (GCell.mk c83_.gKind m82_ c83_.gNum c83_.gTo c83_.gKids)).set ((b77_).toNat) (GCell.mk c84_.gKind c84_.gName (wr.i64 ((wr.i64 (b76_ + 1)) + 1)) c84_.gTo c84_.gKids)).set ((b77_).toNat) (GCell.mk c85_.gKind c85_.gName c85_.gNum (wr.i64 ((wr.i64 ((wr.i64 (b76_ + 1)) + 1)) + 1)) c85_.gKids))) }] [] [0, 1, 5] [] [0] ⟨[(0, (.v (.slx), [(0, .al (.a 0 0) [])])), (1, (.v (.int .i64 (wr.i64 ((wr.i64 ((wr.i64 (b76_ + 1)) + 1)) + 1))), [])), (5, (.v (.int .i64 b77_), []))], [], [(0, [(0, .ex 1000000007 true (List.map GCell.c ((((d78_.set ((b77_).toNat) (GCell.mk b76_ c81_.gName c81_.gNum c81_.gTo c81_.gKids)).set ((b77_).toNat) (GCell.mk c83_.gKind m82_ c83_.gNum c83_.gTo c83_.gKids)).set ((b77_).toNat) (GCell.mk c84_.gKind c84_.gName (wr.i64 ((wr.i64 (b76_ + 1)) + 1)) c84_.gTo c84_.gKids)).set ((b77_).toNat) (GCell.mk c85_.gKind c85_.gName c85_.gNum (wr.i64 ((wr.i64 ((wr.i64 (b76_ + 1)) + 1)) + 1)) c85_.gKids))))])]⟩ _ (by kernel_rfl) (.cons (ix_obl (c := GCell.c) GCell.c_len h80) (.cons (mod_obl (off := 3) (new := [.int .i64 (wr.i64 ((wr.i64 ((wr.i64 (b76_ + 1)) + 1)) + 1))]) (c := GCell.c) (GCell.c_eq c85_) (GCell.c_eq (GCell.mk c85_.gKind c85_.gName c85_.gNum (wr.i64 ((wr.i64 ((wr.i64 (b76_ + 1)) + 1)) + 1)) c85_.gKids)) (at'_spec h80).2 rfl) (.cons (st_obl (sz := 5) (off := 3) (s := 1) (c := GCell.c) (GCell.c_eq c85_) (at'_spec h80).2 rfl (Nat.le_of_ble_eq_true rfl)) .nil))) ?_
        refine Wc.seq ?_
        refine Wc.region [] [] [0, 1, 5] [] [0] ⟨[(0, (.v (.slx), [(0, .al (.a 0 0) [])])), (1, (.v (.int .i64 (wr.i64 ((wr.i64 ((wr.i64 ((wr.i64 (b76_ + 1)) + 1)) + 1)) + 1))), [])), (5, (.v (.int .i64 b77_), []))], [], [(0, [(0, .ex 1000000007 true (List.map GCell.c ((((d78_.set ((b77_).toNat) (GCell.mk b76_ c81_.gName c81_.gNum c81_.gTo c81_.gKids)).set ((b77_).toNat) (GCell.mk c83_.gKind m82_ c83_.gNum c83_.gTo c83_.gKids)).set ((b77_).toNat) (GCell.mk c84_.gKind c84_.gName (wr.i64 ((wr.i64 (b76_ + 1)) + 1)) c84_.gTo c84_.gKids)).set ((b77_).toNat) (GCell.mk c85_.gKind c85_.gName c85_.gNum (wr.i64 ((wr.i64 ((wr.i64 (b76_ + 1)) + 1)) + 1)) c85_.gKids))))])]⟩ _ (by kernel_rfl) .nil ?_
        obtain ⟨c86_, h81, h74⟩ := obind h74
        obtain ⟨n87_, h82, h74⟩ := obind h74
        refine Wc.region [{}, {}, {}, {}, { v := some (.slx) }, {}, { c := some (List.map GCell.c (((((d78_.set ((b77_).toNat) (GCell.mk b76_ c81_.gName c81_.gNum c81_.gTo c81_.gKids)).set ((b77_).toNat) (GCell.mk c83_.gKind m82_ c83_.gNum c83_.gTo c83_.gKids)).set ((b77_).toNat) (GCell.mk c84_.gKind c84_.gName (wr.i64 ((wr.i64 (b76_ + 1)) + 1)) c84_.gTo c84_.gKids)).set ((b77_).toNat) (GCell.mk c85_.gKind c85_.gName c85_.gNum (wr.i64 ((wr.i64 ((wr.i64 (b76_ + 1)) + 1)) + 1)) c85_.gKids)).set ((b77_).toNat) (GCell.mk c86_.gKind c86_.gName c86_.gNum c86_.gTo n87_.1))), io := [0], r := some (.v (.int .i64 n87_.2) []), outs := [(0, .v .undef [(0, .ex 1000000007 true (List.map cI.i64 n87_.1))])], ioc := [(0, .ex 1000000007 true (List.map cI.i64 c86_.gKids))] }] [] [0, 1, 5] [] [0] ⟨[(0, (.v (.slx), [(0, .al (.a 0 0) [])])), (1, (.v (.int .i64 n87_.2), [])), (5, (.v (.int .i64 b77_), []))], [], [(0, [(0, .ex 1000000007 true (List.map GCell.c (((((d78_.set ((b77_).toNat) (GCell.mk b76_ c81_.gName c81_.gNum c81_.gTo c81_.gKids)).set ((b77_).toNat) (GCell.mk c83_.gKind m82_ c83_.gNum c83_.gTo c83_.gKids)).set ((b77_).toNat) (GCell.mk c84_.gKind c84_.gName (wr.i64 ((wr.i64 (b76_ + 1)) + 1)) c84_.gTo c84_.gKids)).set ((b77_).toNat) (GCell.mk c85_.gKind c85_.gName c85_.gNum (wr.i64 ((wr.i64 ((wr.i64 (b76_ + 1)) + 1)) + 1)) c85_.gKids)).set ((b77_).toNat) (GCell.mk c86_.gKind c86_.gName c86_.gNum c86_.gTo n87_.1))))])]⟩ _ (by kernel_rfl) (.cons (ix_obl (c := GCell.c) GCell.c_len h81) (.cons (el_oblD (sz := 5) (off := 4) (s := 1) (ag := false) (v := .slx) (c := GCell.c) (GCell.c_eq c86_) (at'_spec h81).2 rfl (Nat.le_of_ble_eq_true rfl) rfl) (.cons (own_obl (own := [(0, .al (.a 0 0) [(((b77_).toNat), 5, 4)])]) (p := .a 0 0) (m := (b77_).toNat) (sz := 5) (off := 4) (js := [0]) rfl) (.cons (seg_obl (sz := 5) (off := 4) (n := [.sl (List.map cI.i64 c86_.gKids)]) (c := GCell.c) (GCell.c_eq c86_) (at'_spec h81).2 rfl (Nat.le_of_ble_eq_true rfl) rfl) (.cons (mod_obl (off := 4) (new := [.sl (List.map cI.i64 n87_.1)]) (c := GCell.c) (GCell.c_eq c86_) (GCell.c_eq (GCell.mk c86_.gKind c86_.gName c86_.gNum c86_.gTo n87_.1)) (at'_spec h81).2 rfl) (.cons (FnO.any (args := [.io (.slx) [(0, .ex 1000000007 true (List.map cI.i64 c86_.gKids))], .v (.int .i64 (wr.i64 ((wr.i64 ((wr.i64 ((wr.i64 (b76_ + 1)) + 1)) + 1)) + 1))) []]) (claws_markIntS h82)) .nil)))))) ?_
        refine Wc.region [] [] [0, 1, 5] [] [0] ⟨[(0, (.v (.slx), [(0, .al (.a 0 0) [])])), (1, (.v (.int .i64 n87_.2), [])), (5, (.v (.int .i64 (wr.i64 (b77_ + 1))), []))], [], [(0, [(0, .ex 1000000007 true (List.map GCell.c (((((d78_.set ((b77_).toNat) (GCell.mk b76_ c81_.gName c81_.gNum c81_.gTo c81_.gKids)).set ((b77_).toNat) (GCell.mk c83_.gKind m82_ c83_.gNum c83_.gTo c83_.gKids)).set ((b77_).toNat) (GCell.mk c84_.gKind c84_.gName (wr.i64 ((wr.i64 (b76_ + 1)) + 1)) c84_.gTo c84_.gKids)).set ((b77_).toNat) (GCell.mk c85_.gKind c85_.gName c85_.gNum (wr.i64 ((wr.i64 ((wr.i64 (b76_ + 1)) + 1)) + 1)) c85_.gKids)).set ((b77_).toNat) (GCell.mk c86_.gKind c86_.gName c86_.gNum c86_.gTo n87_.1))))])]⟩ _ (by kernel_rfl) .nil ?_
        exact ⟨_, Nat.lt_succ_self _, _, _, _, rfl, h74⟩
      · refine Wc.condF h75 (by kernel_rfl) ?_
        refine Wc.fix (st' := ⟨[(1, (.v (.int .i64 b76_), []))], [], [(0, [(0, .ex 1000000007 true (List.map GCell.c d78_))])]⟩) [] [1] [] [0] (by kernel_rfl) ?_
        refine Wc.exit ?_
        obtain rfl := Option.some.inj h74
        exact ⟨_, _, rfl, rfl⟩
  · rintro st ⟨b79_, d80_, rfl, rfl⟩
    refine Wc.seq ?_
    refine Wc.region [] [] [4] [] [0] ⟨[(4, (.v (.int .i64 b79_), []))], [], [(0, [(0, .ex 1000000007 true (List.map GCell.c d80_))])]⟩ _ (by kernel_rfl) .nil ?_
    refine Wc.ret ?_
    obtain rfl := Option.some.inj h
    exact ⟨.inl rfl, by kernel_rfl, by kernel_rfl⟩

/-- laws.markHeap -/
def plaws_markHeap (k : Nat) (e88_ : GHeap) (b89_ : Int) : Option (GHeap × Int) :=
  (plaws_markCellS k e88_.gCells b89_).bind fun o90_ =>
  (plaws_markIntS k e88_.gTrail o90_.2).bind fun n91_ =>
  some (GHeap.mk o90_.1 n91_.1, n91_.2)
theorem claws_markHeap {k : Nat} {e88_ : GHeap} {b89_ : Int} {r : GHeap × Int} (h : plaws_markHeap k e88_ b89_ = some r) : FnO Try.prog 22 [.io (.agg [.slx, .slx]) [(0, .ex 1000000007 true (List.map GCell.c e88_.gCells)), (1, .ex 1000000007 true (List.map cI.i64 e88_.gTrail))], .v (.int .i64 b89_) []] (.v (.int .i64 r.2) []) [(0, .v .undef [(0, .ex 1000000007 true (List.map GCell.c r.1.gCells)), (1, .ex 1000000007 true (List.map cI.i64 r.1.gTrail))])] := by
  refine FnO.of Try.func22 (rfl : Try.f22.body = some _) (Nat.le_of_ble_eq_true (by kernel_rfl)) (Nat.le_of_ble_eq_true (by kernel_rfl)) ?_
  intro w0 X0 Fin pv0 pb
  unfold plaws_markHeap at h
  refine Wc.seq ?_
  refine Wc.region [] [] [1, 2] [2] [0] ⟨[(1, (.v (.int .i64 b89_), [])), (2, (.ptr 2 0, []))], [(2, .cells [.slx, .slx] [(0, .al (.a 0 0) []), (1, .al (.a 0 1) [])])], [(0, [(0, .ex 1000000007 true (List.map GCell.c e88_.gCells)), (1, .ex 1000000007 true (List.map cI.i64 e88_.gTrail))])]⟩ _ (by kernel_rfl) .nil ?_
  refine Wc.seq ?_
  obtain ⟨o90_, h83, h⟩ := obind h
  refine Wc.region [{}, {}, {}, { io := [0], r := some (.v (.int .i64 o90_.2) []), outs := [(0, .v .undef [(0, .ex 1000000007 true (List.map GCell.c o90_.1))])] }] [] [1, 2] [2] [0] ⟨[(1, (.v (.int .i64 o90_.2), [])), (2, (.ptr 2 0, []))], [(2, .cells [.slx, .slx] [(0, .al (.a 0 0) []), (1, .al (.a 0 1) [])])], [(0, [(0, .ex 1000000007 true (List.map GCell.c o90_.1)), (1, .ex 1000000007 true (List.map cI.i64 e88_.gTrail))])]⟩ _ (by kernel_rfl) (.cons (FnO.any (args := [.io (.slx) [(0, .ex 1000000007 true (List.map GCell.c e88_.gCells))], .v (.int .i64 b89_) []]) (claws_markCellS h83)) .nil) ?_
  refine Wc.seq ?_
  obtain ⟨n91_, h84, h⟩ := obind h
  refine Wc.region [{}, {}, {}, { io := [0], r := some (.v (.int .i64 n91_.2) []), outs := [(0, .v .undef [(0, .ex 1000000007 true (List.map cI.i64 n91_.1))])] }] [] [1] [] [0] ⟨[(1, (.v (.int .i64 n91_.2), []))], [], [(0, [(0, .ex 1000000007 true (List.map GCell.c o90_.1)), (1, .ex 1000000007 true (List.map cI.i64 n91_.1))])]⟩ _ (by kernel_rfl) (.cons (FnO.any (args := [.io (.slx) [(0, .ex 1000000007 true (List.map cI.i64 e88_.gTrail))], .v (.int .i64 o90_.2) []]) (claws_markIntS h84)) .nil) ?_
  refine Wc.seq ?_
  refine Wc.region [] [] [4] [] [0] ⟨[(4, (.v (.int .i64 n91_.2), []))], [], [(0, [(0, .ex 1000000007 true (List.map GCell.c o90_.1)), (1, .ex 1000000007 true (List.map cI.i64 n91_.1))])]⟩ _ (by kernel_rfl) .nil ?_
  refine Wc.ret ?_
  obtain rfl := Option.some.inj h
  exact ⟨.inl rfl, by kernel_rfl, by kernel_rfl⟩

def plaws_markTermS_L1 (k : Nat) (rlaws_markTermS : (List GTerm) → Int → Option ((List GTerm) × Int)) : Nat → Int → Int → (List GTerm) → Option (Out ((List GTerm) × Int) (Int × (List GTerm)))
  | 0, _, _, _ => none
  | m + 1, b94_, b95_, i96_ =>
    if (decide (b95_ < (i96_.length : Int))) = true then
      (at' i96_ b95_).bind fun j99_ =>
      (plaws_markText k (wr.i64 (b94_ + 1))).bind fun m100_ =>
      (at' (i96_.set ((b95_).toNat) (GTerm.mk b94_ j99_.gName j99_.gNum j99_.gKids)) b95_).bind fun j101_ =>
      (at' ((i96_.set ((b95_).toNat) (GTerm.mk b94_ j99_.gName j99_.gNum j99_.gKids)).set ((b95_).toNat) (GTerm.mk j101_.gKind m100_ j101_.gNum j101_.gKids)) b95_).bind fun j102_ =>
      (at' (((i96_.set ((b95_).toNat) (GTerm.mk b94_ j99_.gName j99_.gNum j99_.gKids)).set ((b95_).toNat) (GTerm.mk j101_.gKind m100_ j101_.gNum j101_.gKids)).set ((b95_).toNat) (GTerm.mk j102_.gKind j102_.gName (wr.i64 ((wr.i64 (b94_ + 1)) + 1)) j102_.gKids)) b95_).bind fun j103_ =>
      (rlaws_markTermS j103_.gKids (wr.i64 ((wr.i64 ((wr.i64 (b94_ + 1)) + 1)) + 1))).bind fun p104_ =>
      plaws_markTermS_L1 k rlaws_markTermS m p104_.2 (wr.i64 (b95_ + 1)) ((((i96_.set ((b95_).toNat) (GTerm.mk b94_ j99_.gName j99_.gNum j99_.gKids)).set ((b95_).toNat) (GTerm.mk j101_.gKind m100_ j101_.gNum j101_.gKids)).set ((b95_).toNat) (GTerm.mk j102_.gKind j102_.gName (wr.i64 ((wr.i64 (b94_ + 1)) + 1)) j102_.gKids)).set ((b95_).toNat) (GTerm.mk j103_.gKind j103_.gName j103_.gNum p104_.1))
    else
      some (.done (b94_, i96_))
mutual
/-- laws.markTermS -/
def plaws_markTermS : Nat → (List GTerm) → Int → Option ((List GTerm) × Int)
  | 0, _, _ => none
  | k + 1, i92_, b93_ =>
    (plaws_markTermS_L1 k (plaws_markTermS k) k b93_ 0 i92_).bind fun out1 => match out1 with
    | .ret r => some r
    | .done (b97_, i98_) =>
      some (i98_, b97_)
end
theorem all_plaws_markTermS : ∀ k : Nat, (∀ {i92_ : List GTerm} {b93_ : Int} {r : (List GTerm) × Int}, plaws_markTermS k i92_ b93_ = some r → FnO Try.prog 76 [.io (.slx) [(0, .ex 1000000007 true (List.map GTerm.c i92_))], .v (.int .i64 b93_) []] (.v (.int .i64 r.2) []) [(0, .v .undef [(0, .ex 1000000007 true (List.map GTerm.c r.1))])]) := by
  intro k
  induction k with
  | zero =>
    · intro i92_ b93_ r h
      exact (onone (by rw [plaws_markTermS] at h; exact h)).elim
  | succ k ih =>
    have ih_plaws_markTermS := @ih
    · intro i92_ b93_ r h
      rw [plaws_markTermS] at h
      refine FnO.of Try.func76 (rfl : Try.f76.body = some _) (Nat.le_of_ble_eq_true (by kernel_rfl)) (Nat.le_of_ble_eq_true (by kernel_rfl)) ?_
      intro w0 X0 Fin pv0 pb
      refine Wc.seq ?_
      refine Wc.region [] [] [0, 1] [] [0] ⟨[(0, (.v (.slx), [(0, .al (.a 0 0) [])])), (1, (.v (.int .i64 b93_), []))], [], [(0, [(0, .ex 1000000007 true (List.map GTerm.c i92_))])]⟩ _ (by kernel_rfl) .nil ?_
      refine Wc.seq ?_
      refine Wc.seq ?_
      refine Wc.region [] [] [0, 1, 5] [] [0] ⟨[(0, (.v (.slx), [(0, .al (.a 0 0) [])])), (1, (.v (.int .i64 b93_), [])), (5, (.v (.int .i64 0), []))], [], [(0, [(0, .ex 1000000007 true (List.map GTerm.c i92_))])]⟩ _ (by kernel_rfl) .nil ?_
      obtain ⟨out1, h85, h⟩ := obind h
      refine Wc.lastJ (fun st => ∃ (b97_ : Int) (i98_ : List GTerm), out1 = .done (b97_, i98_) ∧ st = ⟨[(1, (.v (.int .i64 b97_), []))], [], [(0, [(0, .ex 1000000007 true (List.map GTerm.c i98_))])]⟩) ?_ ?_
      · refine Wc.block ?_
        refine Wc.loop (fun m st => ∃ (b94_ : Int) (b95_ : Int) (i96_ : List GTerm), st = ⟨[(0, (.v (.slx), [(0, .al (.a 0 0) [])])), (1, (.v (.int .i64 b94_), [])), (5, (.v (.int .i64 b95_), []))], [], [(0, [(0, .ex 1000000007 true (List.map GTerm.c i96_))])]⟩ ∧ plaws_markTermS_L1 k (plaws_markTermS k) m b94_ b95_ i96_ = some out1) ?_ k ⟨_, _, _, rfl, h85⟩
        rintro m st ⟨b94_, b95_, i96_, rfl, h85⟩
        cases m with
        | zero => exact (onone h85).elim
        | succ m =>
          refine Wc.seq ?_
          refine Wc.seq ?_
          refine Wc.region [{}, {}, { v := some (.int .i64 (i96_.length : Int)) }] [] [0, 1, 5, 9] [] [0] ⟨[(0, (.v (.slx), [(0, .al (.a 0 0) [])])), (1, (.v (.int .i64 b94_), [])), (5, (.v (.int .i64 b95_), [])), (9, (.v (.bool (decide (b95_ < (i96_.length : Int)))), []))], [], [(0, [(0, .ex 1000000007 true (List.map GTerm.c i96_))])]⟩ _ (by kernel_rfl) (.cons (len_obl GTerm.c i96_) .nil) ?_
          rcases oif h85 with ⟨h86, h85⟩ | ⟨h86, h85⟩
          · refine Wc.condT h86 (by kernel_rfl) ?_
            refine Wc.fix (st' := ⟨[(0, (.v (.slx), [(0, .al (.a 0 0) [])])), (1, (.v (.int .i64 b94_), [])), (5, (.v (.int .i64 b95_), []))], [], [(0, [(0, .ex 1000000007 true (List.map GTerm.c i96_))])]⟩) [] [0, 1, 5] [] [0] (by kernel_rfl) ?_
            refine Wc.skip ?_
            refine Wc.seq ?_
            refine Wc.block ?_
            refine Wc.seq ?_
            obtain ⟨j99_, h87, h85⟩ := obind h85
            refine Wc.region [{}, {}, {}, {}, {}, { c := some (List.map GTerm.c (i96_.set ((b95_).toNat) (GTerm.mk b94_ j99_.gName j99_.gNum j99_.gKids))) }] [] [0, 1, 5] [] [0] ⟨[(0, (.v (.slx), [(0, .al (.a 0 0) [])])), (1, (.v (.int .i64 b94_), [])), (5, (.v (.int .i64 b95_), []))], [], [(0, [(0, .ex 1000000007 true (List.map GTerm.c (i96_.set ((b95_).toNat) (GTerm.mk b94_ j99_.gName j99_.gNum j99_.gKids))))])]⟩ _ (by kernel_rfl) (.cons (ix_obl (c := GTerm.c) GTerm.c_len h87) (.cons (mod_obl (off := 0) (new := [.int .i64 b94_]) (c := GTerm.c) (GTerm.c_eq j99_) (GTerm.c_eq (GTerm.mk b94_ j99_.gName j99_.gNum j99_.gKids)) (at'_spec h87).2 rfl) (.cons (st_obl (sz := 4) (off := 0) (s := 1) (c := GTerm.c) (GTerm.c_eq j99_) (at'_spec h87).2 rfl (Nat.le_of_ble_eq_true rfl)) .nil))) ?_
            refine Wc.seq ?_
            refine Wc.region [] [] [0, 1, 5] [] [0] ⟨[(0, (.v (.slx), [(0, .al (.a 0 0) [])])), (1, (.v (.int .i64 (wr.i64 (b94_ + 1))), [])), (5, (.v (.int .i64 b95_), []))], [], [(0, [(0, .ex 1000000007 true (List.map GTerm.c (i96_.set ((b95_).toNat) (GTerm.mk b94_ j99_.gName j99_.gNum j99_.gKids))))])]⟩ _ (by kernel_rfl) .nil ?_
            refine Wc.seq ?_
            obtain ⟨m100_, h88, h85⟩ := obind h85
            obtain ⟨j101_, h89, h85⟩ := obind h85
            refine Wc.region [{}, {}, {}, { r := some (.v (.str m100_) []) }, {}, {}, { c := some (List.map GTerm.c ((i96_.set ((b95_).toNat) (GTerm.mk b94_ j99_.gName j99_.gNum j99_.gKids)).set ((b95_).toNat) (GTerm.mk j101_.gKind m100_ j101_.gNum j101_.gKids))) }] [] [0, 1, 5] [] [0] ⟨[(0, (.v (.slx), [(0, .al (.a 0 0) [])])), (1, (.v (.int .i64 (wr.i64 (b94_ + 1))), [])), (5, (.v (.int .i64 b95_), []))], [], [(0, [(0, .ex 1000000007 true (List.map GTerm.c ((i96_.set ((b95_).toNat) (GTerm.mk b94_ j99_.gName j99_.gNum j99_.gKids)).set ((b95_).toNat) (GTerm.mk j101_.gKind m100_ j101_.gNum j101_.gKids))))])]⟩ _ (by kernel_rfl) (.cons (claws_markText h88) (.cons (ix_obl (c := GTerm.c) GTerm.c_len h89) (.cons (mod_obl (off := 1) (new := [.str m100_]) (c := GTerm.c) (GTerm.c_eq j101_) (GTerm.c_eq (GTerm.mk j101_.gKind m100_ j101_.gNum j101_.gKids)) (at'_spec h89).2 rfl) (.cons (st_obl (sz := 4) (off := 1) (s := 1) (c := GTerm.c) (GTerm.c_eq j101_) (at'_spec h89).2 rfl (Nat.le_of_ble_eq_true rfl)) .nil)))) ?_
            refine Wc.seq ?_
            refine Wc.region [] [] [0, 1, 5] [] [0] ⟨[(0, (.v (.slx), [(0, .al (.a 0 0) [])])), (1, (.v (.int .i64 (wr.i64 ((wr.i64 (b94_ + 1)) + 1))), [])), (5, (.v (.int .i64 b95_), []))], [], [(0, [(0, .ex 1000000007 true (List.map GTerm.c ((i96_.set ((b95_).toNat) (GTerm.mk b94_ j99_.gName j99_.gNum j99_.gKids)).set ((b95_).toNat) (GTerm.mk j101_.gKind m100_ j101_.gNum j101_.gKids))))])]⟩ _ (by kernel_rfl) .nil ?_
            refine Wc.seq ?_
            obtain ⟨j102_, h90, h85⟩ := obind h85
            refine Wc.region [{}, {}, {}, {}, {}, { c := some (List.map GTerm.c (((i96_.set ((b95_).toNat) (GTerm.mk b94_ j99_.gName j99_.gNum j99_.gKids)).set ((b95_).toNat) (GTerm.mk j101_.gKind m100_ j101_.gNum j101_.gKids)).set ((b95_).toNat) (GTerm.mk j102_.gKind j102_.gName (wr.i64 ((wr.i64 (b94_ + 1)) + 1)) j102_.gKids))) }] [] [0, 1, 5] [] [0] ⟨[(0, (.v (.slx), [(0, .al (.a 0 0) [])])), (1, (.v (.int .i64 (wr.i64 ((wr.i64 (b94_ + 1)) + 1))), [])), (5, (.v (.int .i64 b95_), []))], [], [(0, [(0, .ex 1000000007 true (List.map GTerm.c (((i96_.set ((b95_).toNat) (GTerm.mk b94_ j99_.gName j99_.gNum j99_.gKids)).set ((b95_).toNat) (GTerm.mk j101_.gKind m100_ j101_.gNum j101_.gKids)).set ((b95_).toNat) (GTerm.mk j102_.gKind j102_.gName (wr.i64 ((wr.i64 (b94_ + 1)) + 1)) j102_.gKids))))])]⟩ _ (by kernel_rfl) (.cons (ix_obl (c := GTerm.c) GTerm.c_len h90) (.cons (mod_obl (off := 2) (new := [.int .i64 (wr.i64 ((wr.i64 (b94_ + 1)) + 1))]) (c := GTerm.c) (GTerm.c_eq j102_) (GTerm.c_eq (GTerm.mk j102_.gKind j102_.gName (wr.i64 ((wr.i64 (b94_ + 1)) + 1)) j102_.gKids)) (at'_spec h90).2 rfl) (.cons (st_obl (sz := 4) (off := 2) (s := 1) (c := GTerm.c) (GTerm.c_eq j102_) (at'_spec h90).2 rfl (Nat.le_of_ble_eq_true rfl)) .nil))) ?_
            refine Wc.seq ?_
            refine Wc.region [] [] [0, 1, 5] [] [0] ⟨[(0, (.v (.slx), [(0, .al (.a 0 0) [])])), (1, (.v (.int .i64 (wr.i64 ((wr.i64 ((wr.i64 (b94_ + 1)) + 1)) + 1))), [])), (5, (.v (.int .i64 b95_), []))], [], [(0, [(0, .ex 1000000007 true (List.map GTerm.c (((i96_.set ((b95_).toNat) (GTerm.mk b94_ j99_.gName j99_.gNum j99_.gKids)).set ((b95_).toNat) (GTerm.mk j101_.gKind m100_ j101_.gNum j101_.gKids)).set ((b95_).toNat) (GTerm.mk j102_.gKind j102_.gName (wr.i64 ((wr.i64 (b94_ + 1)) + 1)) j102_.gKids))))])]⟩ _ (by kernel_rfl) .nil ?_
            obtain ⟨j103_, h91, h85⟩ := obind h85
            obtain ⟨p104_, h92, h85⟩ := obind h85
            refine Wc.region [{}, {}, {}, {}, { v := some (.slx) }, {}, { c := some (List.map GTerm.c ((((i96_.set ((b95_).toNat) (GTerm.mk b94_ j99_.gName j99_.gNum j99_.gKids)).set ((b95_).toNat) (GTerm.mk j101_.gKind m100_ j101_.gNum j101_.gKids)).set ((b95_).toNat) (GTerm.mk j102_.gKind j102_.gName (wr.i64 ((wr.i64 (b94_ + 1)) + 1)) j102_.gKids)).set ((b95_).toNat) (GTerm.mk j103_.gKind j103_.gName j103_.gNum p104_.1))), io := [0], r := some (.v (.int .i64 p104_.2) []), outs := [(0, .v .undef [(0, .ex 1000000007 true (List.map GTerm.c p104_.1))])], ioc := [(0, .ex 1000000007 true (List.map GTerm.c j103_.gKids))] }] [] [0, 1, 5] [] [0] ⟨[(0, (.v (.slx), [(0, .al (.a 0 0) [])])), (1, (.v (.int .i64 p104_.2), [])), (5, (.v (.int .i64 b95_), []))], [], [(0, [(0, .ex 1000000007 true (List.map GTerm.c ((((i96_.set ((b95_).toNat) (GTerm.mk b94_ j99_.gName j99_.gNum j99_.gKids)).set ((b95_).toNat) (GTerm.mk j101_.gKind m100_ j101_.gNum j101_.gKids)).set ((b95_).toNat) (GTerm.mk j102_.gKind j102_.gName (wr.i64 ((wr.i64 (b94_ + 1)) + 1)) j102_.gKids)).set ((b95_).toNat) (GTerm.mk j103_.gKind j103_.gName j103_.gNum p104_.1))))])]⟩ _ (by kernel_rfl) (.cons (ix_obl (c := GTerm.c) GTerm.c_len h91) (.cons (el_oblD (sz := 4) (off := 3) (s := 1) (ag := false) (v := .slx) (c := GTerm.c) (GTerm.c_eq j103_) (at'_spec h91).2 rfl (Nat.le_of_ble_eq_true rfl) rfl) (.cons (own_obl (own := [(0, .al (.a 0 0) [(((b95_).toNat), 4, 3)])]) (p := .a 0 0) (m := (b95_).toNat) (sz := 4) (off := 3) (js := [0]) rfl) (.cons (seg_obl (sz := 4) (off := 3) (n := [.sl (List.map GTerm.c j103_.gKids)]) (c := GTerm.c) (GTerm.c_eq j103_) (at'_spec h91).2 rfl (Nat.le_of_ble_eq_true rfl) rfl) (.cons (mod_obl (off := 3) (new := [.sl (List.map GTerm.c p104_.1)]) (c := GTerm.c) (GTerm.c_eq j103_) (GTerm.c_eq (GTerm.mk j103_.gKind j103_.gName j103_.gNum p104_.1)) (at'_spec h91).2 rfl) (.cons (FnO.any (args := [.io (.slx) [(0, .ex 1000000007 true (List.map GTerm.c j103_.gKids))], .v (.int .i64 (wr.i64 ((wr.i64 ((wr.i64 (b94_ + 1)) + 1)) + 1))) []]) (ih_plaws_markTermS h92)) .nil)))))) ?_
            refine Wc.region [] [] [0, 1, 5] [] [0] ⟨[(0, (.v (.slx), [(0, .al (.a 0 0) [])])), (1, (.v (.int .i64 p104_.2), [])), (5, (.v (.int .i64 (wr.i64 (b95_ + 1))), []))], [], [(0, [(0, .ex 1000000007 true (List.map GTerm.c ((((i96_.set ((b95_).toNat) (GTerm.mk b94_ j99_.gName j99_.gNum j99_.gKids)).set ((b95_).toNat) (GTerm.mk j101_.gKind m100_ j101_.gNum j101_.gKids)).set ((b95_).toNat) (GTerm.mk j102_.gKind j102_.gName (wr.i64 ((wr.i64 (b94_ + 1)) + 1)) j102_.gKids)).set ((b95_).toNat) (GTerm.mk j103_.gKind j103_.gName j103_.gNum p104_.1))))])]⟩ _ (by kernel_rfl) .nil ?_
            exact ⟨_, Nat.lt_succ_self _, _, _, _, rfl, h85⟩
          · refine Wc.condF h86 (by kernel_rfl) ?_
            refine Wc.fix (st' := ⟨[(1, (.v (.int .i64 b94_), []))], [], [(0, [(0, .ex 1000000007 true (List.map GTerm.c i96_))])]⟩) [] [1] [] [0] (by kernel_rfl) ?_
            refine Wc.exit ?_
            obtain rfl := Option.some.inj h85
            exact ⟨_, _, rfl, rfl⟩
      · rintro st ⟨b97_, i98_, rfl, rfl⟩
        refine Wc.seq ?_
        refine Wc.region [] [] [4] [] [0] ⟨[(4, (.v (.int .i64 b97_), []))], [], [(0, [(0, .ex 1000000007 true (List.map GTerm.c i98_))])]⟩ _ (by kernel_rfl) .nil ?_
        refine Wc.ret ?_
        obtain rfl := Option.some.inj h
        exact ⟨.inl rfl, by kernel_rfl, by kernel_rfl⟩
theorem claws_markTermS {k : Nat} {i92_ : List GTerm} {b93_ : Int} {r : (List GTerm) × Int} (h : plaws_markTermS k i92_ b93_ = some r) : FnO Try.prog 76 [.io (.slx) [(0, .ex 1000000007 true (List.map GTerm.c i92_))], .v (.int .i64 b93_) []] (.v (.int .i64 r.2) []) [(0, .v .undef [(0, .ex 1000000007 true (List.map GTerm.c r.1))])] := (all_plaws_markTermS k) h

/-- laws.markTerm -/
def plaws_markTerm (k : Nat) (j105_ : GTerm) (b106_ : Int) : Option (GTerm × Int) :=
  (plaws_markTermS k j105_.gKids b106_).bind fun p107_ =>
  some (GTerm.mk j105_.gKind j105_.gName j105_.gNum p107_.1, p107_.2)
theorem claws_markTerm {k : Nat} {j105_ : GTerm} {b106_ : Int} {r : GTerm × Int} (h : plaws_markTerm k j105_ b106_ = some r) : FnO Try.prog 23 [.io (.agg [.int .i64 j105_.gKind, .str j105_.gName, .int .i64 j105_.gNum, .slx]) [(3, .ex 1000000007 true (List.map GTerm.c j105_.gKids))], .v (.int .i64 b106_) []] (.v (.int .i64 r.2) []) [(0, .v .undef [(3, .ex 1000000007 true (List.map GTerm.c r.1.gKids))])] := by
  refine FnO.of Try.func23 (rfl : Try.f23.body = some _) (Nat.le_of_ble_eq_true (by kernel_rfl)) (Nat.le_of_ble_eq_true (by kernel_rfl)) ?_
  intro w0 X0 Fin pv0 pb
  unfold plaws_markTerm at h
  refine Wc.seq ?_
  refine Wc.region [] [] [1, 2] [2] [0] ⟨[(1, (.v (.int .i64 b106_), [])), (2, (.ptr 2 0, []))], [(2, .cells [.int .i64 j105_.gKind, .str j105_.gName, .int .i64 j105_.gNum, .slx] [(3, .al (.a 0 3) [])])], [(0, [(3, .ex 1000000007 true (List.map GTerm.c j105_.gKids))])]⟩ _ (by kernel_rfl) .nil ?_
  refine Wc.seq ?_
  obtain ⟨p107_, h93, h⟩ := obind h
  refine Wc.region [{}, {}, {}, { io := [0], r := some (.v (.int .i64 p107_.2) []), outs := [(0, .v .undef [(0, .ex 1000000007 true (List.map GTerm.c p107_.1))])] }] [] [1] [] [0] ⟨[(1, (.v (.int .i64 p107_.2), []))], [], [(0, [(3, .ex 1000000007 true (List.map GTerm.c p107_.1))])]⟩ _ (by kernel_rfl) (.cons (FnO.any (args := [.io (.slx) [(0, .ex 1000000007 true (List.map GTerm.c j105_.gKids))], .v (.int .i64 b106_) []]) (claws_markTermS h93)) .nil) ?_
  refine Wc.seq ?_
  refine Wc.region [] [] [4] [] [0] ⟨[(4, (.v (.int .i64 p107_.2), []))], [], [(0, [(3, .ex 1000000007 true (List.map GTerm.c p107_.1))])]⟩ _ (by kernel_rfl) .nil ?_
  refine Wc.ret ?_
  obtain rfl := Option.some.inj h
  exact ⟨.inl rfl, by kernel_rfl, by kernel_rfl⟩

def plaws_szTermS_L1 (k : Nat) (rlaws_szTerm : GTerm → Int → Option Int) (rlaws_szTermS : (List GTerm) → Int → Option Int) (i111_ : List GTerm) : Nat → Int → Int → Option (Out Int Int)
  | 0, _, _ => none
  | m + 1, b113_, b114_ =>
    if (decide (b114_ < (i111_.length : Int))) = true then
      (at' i111_ b114_).bind fun j116_ =>
      (rlaws_szTerm j116_ b113_).bind fun b117_ =>
      if (decide (b117_ < 0)) = true then
        some (.ret (-1))
      else
        plaws_szTermS_L1 k rlaws_szTerm rlaws_szTermS i111_ m b117_ (wr.i64 (b114_ + 1))
    else
      some (.done b113_)
mutual
/-- laws.szTerm -/
def plaws_szTerm : Nat → GTerm → Int → Option Int
  | 0, _, _ => none
  | k + 1, j108_, b109_ =>
    if (decide ((wr.i64 (b109_ - (j108_.gName.size : Int))) < 0)) = true then
      some (-1)
    else
      (plaws_szTermS k j108_.gKids (wr.i64 (b109_ - (j108_.gName.size : Int)))).bind fun b110_ =>
      if (decide (b110_ < 0)) = true then
        some (-1)
      else
        some b110_
/-- laws.szTermS -/
def plaws_szTermS : Nat → (List GTerm) → Int → Option Int
  | 0, _, _ => none
  | k + 1, i111_, b112_ =>
    if (decide ((wr.i64 (b112_ - (i111_.length : Int))) < 0)) = true then
      some (-1)
    else
      (plaws_szTermS_L1 k (plaws_szTerm k) (plaws_szTermS k) i111_ k (wr.i64 (b112_ - (i111_.length : Int))) 0).bind fun out1 => match out1 with
      | .ret r => some r
      | .done b115_ =>
        some b115_
end
theorem all_plaws_szTerm : ∀ k : Nat, (∀ {j108_ : GTerm} {b109_ : Int} {r : Int}, plaws_szTerm k j108_ b109_ = some r → FnO Try.prog 34 [.v (.agg [.int .i64 j108_.gKind, .str j108_.gName, .int .i64 j108_.gNum, .sl (List.map GTerm.c j108_.gKids)]) [], .v (.int .i64 b109_) []] (.v (.int .i64 r) []) []) ∧
    (∀ {i111_ : List GTerm} {b112_ : Int} {r : Int}, plaws_szTermS k i111_ b112_ = some r → FnO Try.prog 87 [.v (.sl (List.map GTerm.c i111_)) [], .v (.int .i64 b112_) []] (.v (.int .i64 r) []) []) := by
  intro k
  induction k with
  | zero =>
    refine ⟨?_, ?_⟩
    · intro j108_ b109_ r h
      exact (onone (by rw [plaws_szTerm] at h; exact h)).elim
    · intro i111_ b112_ r h
      exact (onone (by rw [plaws_szTermS] at h; exact h)).elim
  | succ k ih =>
    obtain ⟨ih_plaws_szTerm, ih_plaws_szTermS⟩ := ih
    refine ⟨?_, ?_⟩
    · intro j108_ b109_ r h
      rw [plaws_szTerm] at h
      refine FnO.of Try.func34 (rfl : Try.f34.body = some _) (Nat.le_of_ble_eq_true (by kernel_rfl)) (Nat.le_of_ble_eq_true (by kernel_rfl)) ?_
      intro w0 X0 Fin pv0 pb
      refine Wc.seq ?_
      refine Wc.region [] [] [1, 2] [2] [] ⟨[(1, (.v (.int .i64 b109_), [])), (2, (.ptr 2 0, []))], [(2, .cells [.int .i64 j108_.gKind, .str j108_.gName, .int .i64 j108_.gNum, .sl (List.map GTerm.c j108_.gKids)] [])], []⟩ _ (by kernel_rfl) .nil ?_
      refine Wc.seq ?_
      refine Wc.region [] [] [1, 2] [2] [] ⟨[(1, (.v (.int .i64 (wr.i64 (b109_ - (j108_.gName.size : Int)))), [])), (2, (.ptr 2 0, []))], [(2, .cells [.int .i64 j108_.gKind, .str j108_.gName, .int .i64 j108_.gNum, .sl (List.map GTerm.c j108_.gKids)] [])], []⟩ _ (by kernel_rfl) .nil ?_
      refine Wc.seq ?_
      refine Wc.seq ?_
      refine Wc.region [] [] [1, 2, 11] [2] [] ⟨[(1, (.v (.int .i64 (wr.i64 (b109_ - (j108_.gName.size : Int)))), [])), (2, (.ptr 2 0, [])), (11, (.v (.bool (decide ((wr.i64 (b109_ - (j108_.gName.size : Int))) < 0))), []))], [(2, .cells [.int .i64 j108_.gKind, .str j108_.gName, .int .i64 j108_.gNum, .sl (List.map GTerm.c j108_.gKids)] [])], []⟩ _ (by kernel_rfl) .nil ?_
      rcases oif h with ⟨h94, h⟩ | ⟨h94, h⟩
      · refine Wc.condT h94 (by kernel_rfl) ?_
        refine Wc.seq ?_
        refine Wc.region [] [] [4] [] [] ⟨[(4, (.v (.int .i64 (-1)), []))], [], []⟩ _ (by kernel_rfl) .nil ?_
        refine Wc.ret ?_
        obtain rfl := Option.some.inj h
        exact ⟨.inl rfl, by kernel_rfl, by kernel_rfl⟩
      · refine Wc.condF h94 (by kernel_rfl) ?_
        refine Wc.fix (st' := ⟨[(1, (.v (.int .i64 (wr.i64 (b109_ - (j108_.gName.size : Int)))), [])), (2, (.ptr 2 0, []))], [(2, .cells [.int .i64 j108_.gKind, .str j108_.gName, .int .i64 j108_.gNum, .sl (List.map GTerm.c j108_.gKids)] [])], []⟩) [] [1, 2] [2] [] (by kernel_rfl) ?_
        refine Wc.skip ?_
        refine Wc.seq ?_
        obtain ⟨b110_, h95, h⟩ := obind h
        refine Wc.region [{}, {}, {}, { r := some (.v (.int .i64 b110_) []) }] [] [1] [] [] ⟨[(1, (.v (.int .i64 b110_), []))], [], []⟩ _ (by kernel_rfl) (.cons (ih_plaws_szTermS h95) .nil) ?_
        refine Wc.seq ?_
        refine Wc.seq ?_
        refine Wc.region [] [] [1, 17] [] [] ⟨[(1, (.v (.int .i64 b110_), [])), (17, (.v (.bool (decide (b110_ < 0))), []))], [], []⟩ _ (by kernel_rfl) .nil ?_
        rcases oif h with ⟨h96, h⟩ | ⟨h96, h⟩
        · refine Wc.condT h96 (by kernel_rfl) ?_
          refine Wc.seq ?_
          refine Wc.region [] [] [4] [] [] ⟨[(4, (.v (.int .i64 (-1)), []))], [], []⟩ _ (by kernel_rfl) .nil ?_
          refine Wc.ret ?_
          obtain rfl := Option.some.inj h
          exact ⟨.inl rfl, by kernel_rfl, by kernel_rfl⟩
        · refine Wc.condF h96 (by kernel_rfl) ?_
          refine Wc.fix (st' := ⟨[(1, (.v (.int .i64 b110_), []))], [], []⟩) [] [1] [] [] (by kernel_rfl) ?_
          refine Wc.skip ?_
          refine Wc.seq ?_
          refine Wc.region [] [] [4] [] [] ⟨[(4, (.v (.int .i64 b110_), []))], [], []⟩ _ (by kernel_rfl) .nil ?_
          refine Wc.ret ?_
          obtain rfl := Option.some.inj h
          exact ⟨.inl rfl, by kernel_rfl, by kernel_rfl⟩
    · intro i111_ b112_ r h
      rw [plaws_szTermS] at h
      refine FnO.of Try.func87 (rfl : Try.f87.body = some _) (Nat.le_of_ble_eq_true (by kernel_rfl)) (Nat.le_of_ble_eq_true (by kernel_rfl)) ?_
      intro w0 X0 Fin pv0 pb
      refine Wc.seq ?_
      refine Wc.region [] [] [0, 1] [] [] ⟨[(0, (.v (.sl (List.map GTerm.c i111_)), [])), (1, (.v (.int .i64 b112_), []))], [], []⟩ _ (by kernel_rfl) .nil ?_
      refine Wc.seq ?_
      refine Wc.region [{}, {}, { v := some (.int .i64 (i111_.length : Int)) }] [] [0, 1] [] [] ⟨[(0, (.v (.sl (List.map GTerm.c i111_)), [])), (1, (.v (.int .i64 (wr.i64 (b112_ - (i111_.length : Int)))), []))], [], []⟩ _ (by kernel_rfl) (.cons (len_obl GTerm.c i111_) .nil) ?_
      refine Wc.seq ?_
      refine Wc.seq ?_
      refine Wc.region [] [] [0, 1, 11] [] [] ⟨[(0, (.v (.sl (List.map GTerm.c i111_)), [])), (1, (.v (.int .i64 (wr.i64 (b112_ - (i111_.length : Int)))), [])), (11, (.v (.bool (decide ((wr.i64 (b112_ - (i111_.length : Int))) < 0))), []))], [], []⟩ _ (by kernel_rfl) .nil ?_
      rcases oif h with ⟨h97, h⟩ | ⟨h97, h⟩
      · refine Wc.condT h97 (by kernel_rfl) ?_
        refine Wc.seq ?_
        refine Wc.region [] [] [4] [] [] ⟨[(4, (.v (.int .i64 (-1)), []))], [], []⟩ _ (by kernel_rfl) .nil ?_
        refine Wc.ret ?_
        obtain rfl := Option.some.inj h
        exact ⟨.inl rfl, by kernel_rfl, by kernel_rfl⟩
      · refine Wc.condF h97 (by kernel_rfl) ?_
        refine Wc.fix (st' := ⟨[(0, (.v (.sl (List.map GTerm.c i111_)), [])), (1, (.v (.int .i64 (wr.i64 (b112_ - (i111_.length : Int)))), []))], [], []⟩) [] [0, 1] [] [] (by kernel_rfl) ?_
        refine Wc.skip ?_
        refine Wc.seq ?_
        refine Wc.seq ?_
        refine Wc.region [] [] [0, 1, 5] [] [] ⟨[(0, (.v (.sl (List.map GTerm.c i111_)), [])), (1, (.v (.int .i64 (wr.i64 (b112_ - (i111_.length : Int)))), [])), (5, (.v (.int .i64 0), []))], [], []⟩ _ (by kernel_rfl) .nil ?_
        obtain ⟨out1, h98, h⟩ := obind h
        refine Wc.lastJ (fun st => ∃ (b115_ : Int), out1 = .done b115_ ∧ st = ⟨[(1, (.v (.int .i64 b115_), []))], [], []⟩) ?_ ?_
        · refine Wc.block ?_
          refine Wc.loop (fun m st => ∃ (b113_ : Int) (b114_ : Int), st = ⟨[(0, (.v (.sl (List.map GTerm.c i111_)), [])), (1, (.v (.int .i64 b113_), [])), (5, (.v (.int .i64 b114_), []))], [], []⟩ ∧ plaws_szTermS_L1 k (plaws_szTerm k) (plaws_szTermS k) i111_ m b113_ b114_ = some out1) ?_ k ⟨_, _, rfl, h98⟩
          rintro m st ⟨b113_, b114_, rfl, h98⟩
          cases m with
          | zero => exact (onone h98).elim
          | succ m =>
            refine Wc.seq ?_
            refine Wc.seq ?_
            refine Wc.region [{}, {}, { v := some (.int .i64 (i111_.length : Int)) }] [] [0, 1, 5, 15] [] [] ⟨[(0, (.v (.sl (List.map GTerm.c i111_)), [])), (1, (.v (.int .i64 b113_), [])), (5, (.v (.int .i64 b114_), [])), (15, (.v (.bool (decide (b114_ < (i111_.length : Int)))), []))], [], []⟩ _ (by kernel_rfl) (.cons (len_obl GTerm.c i111_) .nil) ?_
            rcases oif h98 with ⟨h99, h98⟩ | ⟨h99, h98⟩
            · refine Wc.condT h99 (by kernel_rfl) ?_
              refine Wc.fix (st' := ⟨[(0, (.v (.sl (List.map GTerm.c i111_)), [])), (1, (.v (.int .i64 b113_), [])), (5, (.v (.int .i64 b114_), []))], [], []⟩) [] [0, 1, 5] [] [] (by kernel_rfl) ?_
              refine Wc.skip ?_
              refine Wc.seq ?_
              refine Wc.block ?_
              refine Wc.seq ?_
              obtain ⟨j116_, h100, h98⟩ := obind h98
              obtain ⟨b117_, h101, h98⟩ := obind h98
              refine Wc.region [{}, {}, { v := some (.vptr [.int .i64 j116_.gKind, .str j116_.gName, .int .i64 j116_.gNum, .sl (List.map GTerm.c j116_.gKids)]) }, {}, {}, { r := some (.v (.int .i64 b117_) []) }] [] [0, 1, 5] [] [] ⟨[(0, (.v (.sl (List.map GTerm.c i111_)), [])), (1, (.v (.int .i64 b117_), [])), (5, (.v (.int .i64 b114_), []))], [], []⟩ _ (by kernel_rfl) (.cons (at_obl (c := GTerm.c) (GTerm.c_eq j116_) GTerm.c_len h100) (.cons (len_ok 4 [.int .i64 j116_.gKind, .str j116_.gName, .int .i64 j116_.gNum, .sl (List.map GTerm.c j116_.gKids)]) (.cons (ih_plaws_szTerm h101) .nil))) ?_
              refine Wc.seq ?_
              refine Wc.region [] [] [0, 1, 5, 25] [] [] ⟨[(0, (.v (.sl (List.map GTerm.c i111_)), [])), (1, (.v (.int .i64 b117_), [])), (5, (.v (.int .i64 b114_), [])), (25, (.v (.bool (decide (b117_ < 0))), []))], [], []⟩ _ (by kernel_rfl) .nil ?_
              rcases oif h98 with ⟨h102, h98⟩ | ⟨h102, h98⟩
              · refine Wc.condT h102 (by kernel_rfl) ?_
                refine Wc.seq ?_
                refine Wc.region [] [] [4] [] [] ⟨[(4, (.v (.int .i64 (-1)), []))], [], []⟩ _ (by kernel_rfl) .nil ?_
                refine Wc.ret ?_
                obtain rfl := Option.some.inj h98
                obtain rfl := Option.some.inj h
                exact ⟨.inl rfl, by kernel_rfl, by kernel_rfl⟩
              · refine Wc.condF h102 (by kernel_rfl) ?_
                refine Wc.fix (st' := ⟨[(0, (.v (.sl (List.map GTerm.c i111_)), [])), (1, (.v (.int .i64 b117_), [])), (5, (.v (.int .i64 b114_), []))], [], []⟩) [] [0, 1, 5] [] [] (by kernel_rfl) ?_
                refine Wc.skip ?_
                refine Wc.region [] [] [0, 1, 5] [] [] ⟨[(0, (.v (.sl (List.map GTerm.c i111_)), [])), (1, (.v (.int .i64 b117_), [])), (5, (.v (.int .i64 (wr.i64 (b114_ + 1))), []))], [], []⟩ _ (by kernel_rfl) .nil ?_
                exact ⟨_, Nat.lt_succ_self _, _, _, rfl, h98⟩
            · refine Wc.condF h99 (by kernel_rfl) ?_
              refine Wc.fix (st' := ⟨[(1, (.v (.int .i64 b113_), []))], [], []⟩) [] [1] [] [] (by kernel_rfl) ?_
              refine Wc.exit ?_
              obtain rfl := Option.some.inj h98
              exact ⟨_, rfl, rfl⟩
        · rintro st ⟨b115_, rfl, rfl⟩
          refine Wc.seq ?_
          refine Wc.region [] [] [4] [] [] ⟨[(4, (.v (.int .i64 b115_), []))], [], []⟩ _ (by kernel_rfl) .nil ?_
          refine Wc.ret ?_
          obtain rfl := Option.some.inj h
          exact ⟨.inl rfl, by kernel_rfl, by kernel_rfl⟩
theorem claws_szTerm {k : Nat} {j108_ : GTerm} {b109_ : Int} {r : Int} (h : plaws_szTerm k j108_ b109_ = some r) : FnO Try.prog 34 [.v (.agg [.int .i64 j108_.gKind, .str j108_.gName, .int .i64 j108_.gNum, .sl (List.map GTerm.c j108_.gKids)]) [], .v (.int .i64 b109_) []] (.v (.int .i64 r) []) [] := (all_plaws_szTerm k).1 h
theorem claws_szTermS {k : Nat} {i111_ : List GTerm} {b112_ : Int} {r : Int} (h : plaws_szTermS k i111_ b112_ = some r) : FnO Try.prog 87 [.v (.sl (List.map GTerm.c i111_)) [], .v (.int .i64 b112_) []] (.v (.int .i64 r) []) [] := (all_plaws_szTerm k).2 h

/-- spec.l01In -/
def pspec_l01In (k : Nat) (b118_ : Int) (b119_ : Int) (b120_ : Int) : Option Bool :=
  if (decide (b118_ ≥ b119_)) = true then
    some (decide (b118_ ≤ b120_))
  else
    some false
theorem cspec_l01In {k : Nat} {b118_ : Int} {b119_ : Int} {b120_ : Int} {r : Bool} (h : pspec_l01In k b118_ b119_ b120_ = some r) : FnO Try.prog 110 [.v (.int .i64 b118_) [], .v (.int .i64 b119_) [], .v (.int .i64 b120_) []] (.v (.bool r) []) [] := by
  refine FnO.of Try.func110 (rfl : Try.f110.body = some _) (Nat.le_of_ble_eq_true (by kernel_rfl)) (Nat.le_of_ble_eq_true (by kernel_rfl)) ?_
  intro w0 X0 Fin pv0 pb
  unfold pspec_l01In at h
  refine Wc.seq ?_
  refine Wc.region [] [] [0, 1, 2] [] [] ⟨[(0, (.v (.int .i64 b118_), [])), (1, (.v (.int .i64 b119_), [])), (2, (.v (.int .i64 b120_), []))], [], []⟩ _ (by kernel_rfl) .nil ?_
  refine Wc.seq ?_
  rcases oif h with ⟨h103, h⟩ | ⟨h103, h⟩
  · refine Wc.region [{}, {}, {}, { re := some (.bool true) }] [] [6] [] [] ⟨[(6, (.v (.bool (decide (b118_ ≤ b120_))), []))], [], []⟩ _ (by kernel_rfl) (.cons (congrArg AV.bool h103) .nil) ?_
    refine Wc.ret ?_
    obtain rfl := Option.some.inj h
    exact ⟨.inl rfl, by kernel_rfl, by kernel_rfl⟩
  · refine Wc.region [{}, {}, {}, { re := some (.bool false) }] [] [6] [] [] ⟨[(6, (.v (.bool false), []))], [], []⟩ _ (by kernel_rfl) (.cons (congrArg AV.bool h103) .nil) ?_
    refine Wc.ret ?_
    obtain rfl := Option.some.inj h
    exact ⟨.inl rfl, by kernel_rfl, by kernel_rfl⟩

def pspec_l13Follow_L1 (k : Nat) (d121_ : List GCell) : Nat → Int → Int → Option (Out Int Unit)
  | 0, _, _ => none
  | m + 1, b123_, b124_ =>
    if (decide (b124_ ≤ (d121_.length : Int))) = true then
      (pspec_l01In k b123_ 0 (wr.i64 ((d121_.length : Int) - 1))).bind fun l125_ =>
      if (!l125_) = true then
        some (.ret (-1))
      else
        (at' d121_ b123_).bind fun c126_ =>
        if (c126_.gKind != 1) = true then
          some (.ret b123_)
        else
          (at' d121_ b123_).bind fun c127_ =>
          if (decide (c127_.gTo < 0)) = true then
            some (.ret b123_)
          else
            (at' d121_ b123_).bind fun c128_ =>
            pspec_l13Follow_L1 k d121_ m c128_.gTo (wr.i64 (b124_ + 1))
    else
      some (.done ())
/-- spec.l13Follow -/
def pspec_l13Follow (k : Nat) (d121_ : List GCell) (b122_ : Int) : Option Int :=
  (pspec_l13Follow_L1 k d121_ k b122_ 0).bind fun out1 => match out1 with
  | .ret r => some r
  | .done () =>
    some (-1)
theorem cspec_l13Follow {k : Nat} {d121_ : List GCell} {b122_ : Int} {r : Int} (h : pspec_l13Follow k d121_ b122_ = some r) : FnO Try.prog 140 [.v (.sl (List.map GCell.c d121_)) [], .v (.int .i64 b122_) []] (.v (.int .i64 r) []) [] := by
  refine FnO.of Try.func140 (rfl : Try.f140.body = some _) (Nat.le_of_ble_eq_true (by kernel_rfl)) (Nat.le_of_ble_eq_true (by kernel_rfl)) ?_
  intro w0 X0 Fin pv0 pb
  unfold pspec_l13Follow at h
  refine Wc.seq ?_
  refine Wc.region [] [] [0, 1] [] [] ⟨[(0, (.v (.sl (List.map GCell.c d121_)), [])), (1, (.v (.int .i64 b122_), []))], [], []⟩ _ (by kernel_rfl) .nil ?_
  refine Wc.seq ?_
  refine Wc.seq ?_
  refine Wc.region [] [] [0, 1, 5] [] [] ⟨[(0, (.v (.sl (List.map GCell.c d121_)), [])), (1, (.v (.int .i64 b122_), [])), (5, (.v (.int .i64 0), []))], [], []⟩ _ (by kernel_rfl) .nil ?_
  obtain ⟨out1, h104, h⟩ := obind h
  refine Wc.lastJ (fun st => out1 = .done () ∧ st = ⟨[], [], []⟩) ?_ ?_
  · refine Wc.block ?_
    refine Wc.loop (fun m st => ∃ (b123_ : Int) (b124_ : Int), st = ⟨[(0, (.v (.sl (List.map GCell.c d121_)), [])), (1, (.v (.int .i64 b123_), [])), (5, (.v (.int .i64 b124_), []))], [], []⟩ ∧ pspec_l13Follow_L1 k d121_ m b123_ b124_ = some out1) ?_ k ⟨_, _, rfl, h104⟩
    rintro m st ⟨b123_, b124_, rfl, h104⟩
    cases m with
    | zero => exact (onone h104).elim
    | succ m =>
      refine Wc.seq ?_
      refine Wc.seq ?_
      refine Wc.region [{}, {}, { v := some (.int .i64 (d121_.length : Int)) }] [] [0, 1, 5, 9] [] [] ⟨[(0, (.v (.sl (List.map GCell.c d121_)), [])), (1, (.v (.int .i64 b123_), [])), (5, (.v (.int .i64 b124_), [])), (9, (.v (.bool (decide (b124_ ≤ (d121_.length : Int)))), []))], [], []⟩ _ (by kernel_rfl) (.cons (len_obl GCell.c d121_) .nil) ?_
      rcases oif h104 with ⟨h105, h104⟩ | ⟨h105, h104⟩
      · refine Wc.condT h105 (by kernel_rfl) ?_
        refine Wc.fix (st' := ⟨[(0, (.v (.sl (List.map GCell.c d121_)), [])), (1, (.v (.int .i64 b123_), [])), (5, (.v (.int .i64 b124_), []))], [], []⟩) [] [0, 1, 5] [] [] (by kernel_rfl) ?_
        refine Wc.skip ?_
        refine Wc.seq ?_
        refine Wc.block ?_
        refine Wc.seq ?_
        refine Wc.seq ?_
        obtain ⟨l125_, h106, h104⟩ := obind h104
        refine Wc.region [{}, {}, { v := some (.int .i64 (d121_.length : Int)) }, {}, { r := some (.v (.bool l125_) []) }] [] [0, 1, 5, 17] [] [] ⟨[(0, (.v (.sl (List.map GCell.c d121_)), [])), (1, (.v (.int .i64 b123_), [])), (5, (.v (.int .i64 b124_), [])), (17, (.v (.bool (!l125_)), []))], [], []⟩ _ (by kernel_rfl) (.cons (len_obl GCell.c d121_) (.cons (cspec_l01In h106) .nil)) ?_
        rcases oif h104 with ⟨h107, h104⟩ | ⟨h107, h104⟩
        · refine Wc.condT h107 (by kernel_rfl) ?_
          refine Wc.seq ?_
          refine Wc.region [] [] [4] [] [] ⟨[(4, (.v (.int .i64 (-1)), []))], [], []⟩ _ (by kernel_rfl) .nil ?_
          refine Wc.ret ?_
          obtain rfl := Option.some.inj h104
          obtain rfl := Option.some.inj h
          exact ⟨.inl rfl, by kernel_rfl, by kernel_rfl⟩
        · refine Wc.condF h107 (by kernel_rfl) ?_
          refine Wc.fix (st' := ⟨[(0, (.v (.sl (List.map GCell.c d121_)), [])), (1, (.v (.int .i64 b123_), [])), (5, (.v (.int .i64 b124_), []))], [], []⟩) [] [0, 1, 5] [] [] (by kernel_rfl) ?_
          refine Wc.skip ?_
          refine Wc.seq ?_
          refine Wc.seq ?_
          obtain ⟨c126_, h108, h104⟩ := obind h104
          rcases oif h104 with ⟨h109, h104⟩ | ⟨h109, h104⟩
          · refine Wc.region [{}, {}, { v := some (.vptr [.int .i64 c126_.gKind, .str c126_.gName, .int .i64 c126_.gNum, .int .i64 c126_.gTo, .sl (List.map cI.i64 c126_.gKids)]) }, {}, {}, {}, { re := some (.bool true) }] [] [0, 1, 5, 31] [] [] ⟨[(0, (.v (.sl (List.map GCell.c d121_)), [])), (1, (.v (.int .i64 b123_), [])), (5, (.v (.int .i64 b124_), [])), (31, (.v (.bool true), []))], [], []⟩ _ (by kernel_rfl) (.cons (at_obl (c := GCell.c) (GCell.c_eq c126_) GCell.c_len h108) (.cons (len_ok 1 [.int .i64 c126_.gKind, .str c126_.gName, .int .i64 c126_.gNum, .int .i64 c126_.gTo, .sl (List.map cI.i64 c126_.gKids)]) (.cons (congrArg AV.bool h109) .nil))) ?_
            refine Wc.condT rfl (by kernel_rfl) ?_
            refine Wc.seq ?_
            refine Wc.region [] [] [4] [] [] ⟨[(4, (.v (.int .i64 b123_), []))], [], []⟩ _ (by kernel_rfl) .nil ?_
            refine Wc.ret ?_
            obtain rfl := Option.some.inj h104
            obtain rfl := Option.some.inj h
            exact ⟨.inl rfl, by kernel_rfl, by kernel_rfl⟩
          · obtain ⟨c127_, h110, h104⟩ := obind h104
            refine Wc.region [{}, {}, { v := some (.vptr [.int .i64 c126_.gKind, .str c126_.gName, .int .i64 c126_.gNum, .int .i64 c126_.gTo, .sl (List.map cI.i64 c126_.gKids)]) }, {}, {}, {}, { re := some (.bool false) }, {}, {}, { v := some (.vptr [.int .i64 c127_.gKind, .str c127_.gName, .int .i64 c127_.gNum, .int .i64 c127_.gTo, .sl (List.map cI.i64 c127_.gKids)]) }] [] [0, 1, 5, 31] [] [] ⟨[(0, (.v (.sl (List.map GCell.c d121_)), [])), (1, (.v (.int .i64 b123_), [])), (5, (.v (.int .i64 b124_), [])), (31, (.v (.bool (decide (c127_.gTo < 0))), []))], [], []⟩ _ (by kernel_rfl) (.cons (at_obl (c := GCell.c) (GCell.c_eq c126_) GCell.c_len h108) (.cons (len_ok 1 [.int .i64 c126_.gKind, .str c126_.gName, .int .i64 c126_.gNum, .int .i64 c126_.gTo, .sl (List.map cI.i64 c126_.gKids)]) (.cons (congrArg AV.bool h109) (.cons (at_obl (c := GCell.c) (GCell.c_eq c127_) GCell.c_len h110) (.cons (len_ok 1 [.int .i64 c127_.gTo, .sl (List.map cI.i64 c127_.gKids)]) .nil))))) ?_
            rcases oif h104 with ⟨h111, h104⟩ | ⟨h111, h104⟩
            · refine Wc.condT h111 (by kernel_rfl) ?_
              refine Wc.seq ?_
              refine Wc.region [] [] [4] [] [] ⟨[(4, (.v (.int .i64 b123_), []))], [], []⟩ _ (by kernel_rfl) .nil ?_
              refine Wc.ret ?_
              obtain rfl := Option.some.inj h104
              obtain rfl := Option.some.inj h
              exact ⟨.inl rfl, by kernel_rfl, by kernel_rfl⟩
            · refine Wc.condF h111 (by kernel_rfl) ?_
              refine Wc.fix (st' := ⟨[(0, (.v (.sl (List.map GCell.c d121_)), [])), (1, (.v (.int .i64 b123_), [])), (5, (.v (.int .i64 b124_), []))], [], []⟩) [] [0, 1, 5] [] [] (by kernel_rfl) ?_
              refine Wc.skip ?_
              obtain ⟨c128_, h112, h104⟩ := obind h104
              refine Wc.region [{}, {}, { v := some (.vptr [.int .i64 c128_.gKind, .str c128_.gName, .int .i64 c128_.gNum, .int .i64 c128_.gTo, .sl (List.map cI.i64 c128_.gKids)]) }] [] [0, 1, 5] [] [] ⟨[(0, (.v (.sl (List.map GCell.c d121_)), [])), (1, (.v (.int .i64 c128_.gTo), [])), (5, (.v (.int .i64 b124_), []))], [], []⟩ _ (by kernel_rfl) (.cons (at_obl (c := GCell.c) (GCell.c_eq c128_) GCell.c_len h112) (.cons (len_ok 1 [.int .i64 c128_.gTo, .sl (List.map cI.i64 c128_.gKids)]) .nil)) ?_
              refine Wc.region [] [] [0, 1, 5] [] [] ⟨[(0, (.v (.sl (List.map GCell.c d121_)), [])), (1, (.v (.int .i64 c128_.gTo), [])), (5, (.v (.int .i64 (wr.i64 (b124_ + 1))), []))], [], []⟩ _ (by kernel_rfl) .nil ?_
              exact ⟨_, Nat.lt_succ_self _, _, _, rfl, h104⟩
      · refine Wc.condF h105 (by kernel_rfl) ?_
        refine Wc.fix (st' := ⟨[], [], []⟩) [] [] [] [] (by kernel_rfl) ?_
        refine Wc.exit ?_
        obtain rfl := Option.some.inj h104
        exact ⟨rfl, rfl⟩
  · rintro st ⟨rfl, rfl⟩
    refine Wc.seq ?_
    refine Wc.region [] [] [4] [] [] ⟨[(4, (.v (.int .i64 (-1)), []))], [], []⟩ _ (by kernel_rfl) .nil ?_
    refine Wc.ret ?_
    obtain rfl := Option.some.inj h
    exact ⟨.inl rfl, by kernel_rfl, by kernel_rfl⟩

/-- spec.FollowCell -/
def pspec_FollowCell (k : Nat) (e129_ : GHeap) (b130_ : Int) : Option Int :=
  (pspec_l13Follow k e129_.gCells b130_).bind fun b131_ =>
  some b131_
theorem cspec_FollowCell {k : Nat} {e129_ : GHeap} {b130_ : Int} {r : Int} (h : pspec_FollowCell k e129_ b130_ = some r) : FnO Try.prog 111 [.v (.agg [.sl (List.map GCell.c e129_.gCells), .sl (List.map cI.i64 e129_.gTrail)]) [], .v (.int .i64 b130_) []] (.v (.int .i64 r) []) [] := by
  refine FnO.of Try.func111 (rfl : Try.f111.body = some _) (Nat.le_of_ble_eq_true (by kernel_rfl)) (Nat.le_of_ble_eq_true (by kernel_rfl)) ?_
  intro w0 X0 Fin pv0 pb
  unfold pspec_FollowCell at h
  refine Wc.seq ?_
  refine Wc.region [] [] [1, 2] [2] [] ⟨[(1, (.v (.int .i64 b130_), [])), (2, (.ptr 2 0, []))], [(2, .cells [.sl (List.map GCell.c e129_.gCells), .sl (List.map cI.i64 e129_.gTrail)] [])], []⟩ _ (by kernel_rfl) .nil ?_
  refine Wc.seq ?_
  obtain ⟨b131_, h113, h⟩ := obind h
  refine Wc.region [{}, {}, {}, { r := some (.v (.int .i64 b131_) []) }] [] [4] [] [] ⟨[(4, (.v (.int .i64 b131_), []))], [], []⟩ _ (by kernel_rfl) (.cons (cspec_l13Follow h113) .nil) ?_
  refine Wc.ret ?_
  obtain rfl := Option.some.inj h
  exact ⟨.inl rfl, by kernel_rfl, by kernel_rfl⟩

def pspec_HeapOk_L3 (k : Nat) (c134_ : GCell) (e132_ : GHeap) : Nat → Int → Option (Out Bool Unit)
  | 0, _ => none
  | m + 1, b135_ =>
    if (decide (b135_ < (c134_.gKids.length : Int))) = true then
      (at' c134_.gKids b135_).bind fun b136_ =>
      (pspec_l01In k b136_ 0 (wr.i64 ((e132_.gCells.length : Int) - 1))).bind fun l137_ =>
      if (!l137_) = true then
        some (.ret false)
      else
        pspec_HeapOk_L3 k c134_ e132_ m (wr.i64 (b135_ + 1))
    else
      some (.done ())
def pspec_HeapOk_L4 (k : Nat) (b133_ : Int) (c134_ : GCell) (e132_ : GHeap) : Nat → Int → Option (Out Bool Unit)
  | 0, _ => none
  | m + 1, b138_ =>
    if (decide (b138_ < b133_)) = true then
      if (c134_.gKind == 1) = true then
        (at' e132_.gCells b138_).bind fun c139_ =>
        if (c139_.gKind == 1) = true then
          (at' e132_.gCells b138_).bind fun c140_ =>
          if (c140_.gNum == c134_.gNum) = true then
            some (.ret false)
          else
            pspec_HeapOk_L4 k b133_ c134_ e132_ m (wr.i64 (b138_ + 1))
        else
          pspec_HeapOk_L4 k b133_ c134_ e132_ m (wr.i64 (b138_ + 1))
      else
        some (.done ())
    else
      some (.done ())
def pspec_HeapOk_J2 (k : Nat) (bk_ : Int → Option (Out Bool Unit)) (c134_ : GCell) (e132_ : GHeap) (b133_ : Int) : Option (Out Bool Unit) :=
  (pspec_HeapOk_L3 k c134_ e132_ k 0).bind fun out3 => match out3 with
  | .ret r => some (.ret r)
  | .done () =>
    (pspec_HeapOk_L4 k b133_ c134_ e132_ k 0).bind fun out4 => match out4 with
    | .ret r => some (.ret r)
    | .done () =>
      bk_ (wr.i64 (b133_ + 1))
def pspec_HeapOk_L1 (k : Nat) (e132_ : GHeap) : Nat → Int → Option (Out Bool Unit)
  | 0, _ => none
  | m + 1, b133_ =>
    if (decide (b133_ < (e132_.gCells.length : Int))) = true then
      (at' e132_.gCells b133_).bind fun c134_ =>
      (pspec_l01In k c134_.gKind 1 4).bind fun l141_ =>
      if (!l141_) = true then
        some (.ret false)
      else
        if (c134_.gKind == 1) = true then
          (pspec_l01In k c134_.gTo (-1) (wr.i64 ((e132_.gCells.length : Int) - 1))).bind fun l142_ =>
          if (!l142_) = true then
            some (.ret false)
          else
            (pspec_FollowCell k e132_ b133_).bind fun b143_ =>
            if (decide (b143_ < 0)) = true then
              some (.ret false)
            else
              pspec_HeapOk_J2 k (pspec_HeapOk_L1 k e132_ m) c134_ e132_ b133_
        else
          pspec_HeapOk_J2 k (pspec_HeapOk_L1 k e132_ m) c134_ e132_ b133_
    else
      some (.done ())
def pspec_HeapOk_L5 (k : Nat) (e132_ : GHeap) : Nat → Int → Option (Out Bool Unit)
  | 0, _ => none
  | m + 1, b144_ =>
    if (decide (b144_ < (e132_.gTrail.length : Int))) = true then
      (at' e132_.gTrail b144_).bind fun b145_ =>
      (pspec_l01In k b145_ 0 (wr.i64 ((e132_.gCells.length : Int) - 1))).bind fun l146_ =>
      if (!l146_) = true then
        some (.ret false)
      else
        (at' e132_.gTrail b144_).bind fun b147_ =>
        (at' e132_.gCells b147_).bind fun c148_ =>
        if (c148_.gKind != 1) = true then
          some (.ret false)
        else
          pspec_HeapOk_L5 k e132_ m (wr.i64 (b144_ + 1))
    else
      some (.done ())
/-- spec.HeapOk -/
def pspec_HeapOk (k : Nat) (e132_ : GHeap) : Option Bool :=
  if (decide ((e132_.gCells.length : Int) > 60000)) = true then
    some false
  else
    (pspec_HeapOk_L1 k e132_ k 0).bind fun out1 => match out1 with
    | .ret r => some r
    | .done () =>
      (pspec_HeapOk_L5 k e132_ k 0).bind fun out5 => match out5 with
      | .ret r => some r
      | .done () =>
        some true
set_option maxHeartbeats 4000000 in
theorem cspec_HeapOk {k : Nat} {e132_ : GHeap} {r : Bool} (h : pspec_HeapOk k e132_ = some r) : FnO Try.prog 65 [.v (.agg [.sl (List.map GCell.c e132_.gCells), .sl (List.map cI.i64 e132_.gTrail)]) []] (.v (.bool r) []) [] := by
  refine FnO.of Try.func65 (rfl : Try.f65.body = some _) (Nat.le_of_ble_eq_true (by kernel_rfl)) (Nat.le_of_ble_eq_true (by kernel_rfl)) ?_
  intro w0 X0 Fin pv0 pb
  unfold pspec_HeapOk at h
  refine Wc.seq ?_
  refine Wc.region [] [] [1] [1] [] ⟨[(1, (.ptr 1 0, []))], [(1, .cells [.sl (List.map GCell.c e132_.gCells), .sl (List.map cI.i64 e132_.gTrail)] [])], []⟩ _ (by kernel_rfl) .nil ?_
  refine Wc.seq ?_
  refine Wc.region [{}, {}, { v := some (.int .i64 (e132_.gCells.length : Int)) }] [] [1, 3] [1] [] ⟨[(1, (.ptr 1 0, [])), (3, (.v (.int .i64 (e132_.gCells.length : Int)), []))], [(1, .cells [.sl (List.map GCell.c e132_.gCells), .sl (List.map cI.i64 e132_.gTrail)] [])], []⟩ _ (by kernel_rfl) (.cons (len_obl GCell.c e132_.gCells) .nil) ?_
  refine Wc.seq ?_
  refine Wc.seq ?_
  refine Wc.region [] [] [1, 3, 13] [1] [] ⟨[(1, (.ptr 1 0, [])), (3, (.v (.int .i64 (e132_.gCells.length : Int)), [])), (13, (.v (.bool (decide ((e132_.gCells.length : Int) > 60000))), []))], [(1, .cells [.sl (List.map GCell.c e132_.gCells), .sl (List.map cI.i64 e132_.gTrail)] [])], []⟩ _ (by kernel_rfl) .nil ?_
  rcases oif h with ⟨h114, h⟩ | ⟨h114, h⟩
  · refine Wc.condT h114 (by kernel_rfl) ?_
    refine Wc.seq ?_
    refine Wc.region [] [] [2] [] [] ⟨[(2, (.v (.bool false), []))], [], []⟩ _ (by kernel_rfl) .nil ?_
    refine Wc.ret ?_
    obtain rfl := Option.some.inj h
    exact ⟨.inl rfl, by kernel_rfl, by kernel_rfl⟩
  · refine Wc.condF h114 (by kernel_rfl) ?_
    refine Wc.fix (st' := ⟨[(1, (.ptr 1 0, [])), (3, (.v (.int .i64 (e132_.gCells.length : Int)), []))], [(1, .cells [.sl (List.map GCell.c e132_.gCells), .sl (List.map cI.i64 e132_.gTrail)] [])], []⟩) [] [1, 3] [1] [] (by kernel_rfl) ?_
    refine Wc.skip ?_
    refine Wc.seq ?_
    refine Wc.seq ?_
    refine Wc.region [] [] [1, 3, 4] [1] [] ⟨[(1, (.ptr 1 0, [])), (3, (.v (.int .i64 (e132_.gCells.length : Int)), [])), (4, (.v (.int .i64 0), []))], [(1, .cells [.sl (List.map GCell.c e132_.gCells), .sl (List.map cI.i64 e132_.gTrail)] [])], []⟩ _ (by kernel_rfl) .nil ?_
    obtain ⟨out1, h115, h⟩ := obind h
    refine Wc.lastJ (fun st => out1 = .done () ∧ st = ⟨[(1, (.ptr 1 0, [])), (3, (.v (.int .i64 (e132_.gCells.length : Int)), []))], [(1, .cells [.sl (List.map GCell.c e132_.gCells), .sl (List.map cI.i64 e132_.gTrail)] [])], []⟩) ?_ ?_
    · refine Wc.block ?_
      refine Wc.loop (fun m st => ∃ (b133_ : Int), st = ⟨[(1, (.ptr 1 0, [])), (3, (.v (.int .i64 (e132_.gCells.length : Int)), [])), (4, (.v (.int .i64 b133_), []))], [(1, .cells [.sl (List.map GCell.c e132_.gCells), .sl (List.map cI.i64 e132_.gTrail)] [])], []⟩ ∧ pspec_HeapOk_L1 k e132_ m b133_ = some out1) ?_ k ⟨_, rfl, h115⟩
      rintro m st ⟨b133_, rfl, h115⟩
      cases m with
      | zero => exact (onone h115).elim
      | succ m =>
        refine Wc.seq ?_
        refine Wc.seq ?_
        refine Wc.region [] [] [1, 3, 4, 16] [1] [] ⟨[(1, (.ptr 1 0, [])), (3, (.v (.int .i64 (e132_.gCells.length : Int)), [])), (4, (.v (.int .i64 b133_), [])), (16, (.v (.bool (decide (b133_ < (e132_.gCells.length : Int)))), []))], [(1, .cells [.sl (List.map GCell.c e132_.gCells), .sl (List.map cI.i64 e132_.gTrail)] [])], []⟩ _ (by kernel_rfl) .nil ?_
        rcases oif h115 with ⟨h116, h115⟩ | ⟨h116, h115⟩
        · refine Wc.condT h116 (by kernel_rfl) ?_
          refine Wc.fix (st' := ⟨[(1, (.ptr 1 0, [])), (3, (.v (.int .i64 (e132_.gCells.length : Int)), [])), (4, (.v (.int .i64 b133_), []))], [(1, .cells [.sl (List.map GCell.c e132_.gCells), .sl (List.map cI.i64 e132_.gTrail)] [])], []⟩) [] [1, 3, 4] [1] [] (by kernel_rfl) ?_
          refine Wc.skip ?_
          refine Wc.seq ?_
          refine Wc.block ?_
          refine Wc.seq ?_
          obtain ⟨c134_, h117, h115⟩ := obind h115
          refine Wc.region [{}, {}, {}, { v := some (.vptr [.int .i64 c134_.gKind, .str c134_.gName, .int .i64 c134_.gNum, .int .i64 c134_.gTo, .sl (List.map cI.i64 c134_.gKids)]) }] [] [1, 3, 4, 5] [1, 5] [] ⟨[(1, (.ptr 1 0, [])), (3, (.v (.int .i64 (e132_.gCells.length : Int)), [])), (4, (.v (.int .i64 b133_), [])), (5, (.ptr 5 0, []))], [(1, .cells [.sl (List.map GCell.c e132_.gCells), .sl (List.map cI.i64 e132_.gTrail)] []), (5, .cells [.int .i64 c134_.gKind, .str c134_.gName, .int .i64 c134_.gNum, .int .i64 c134_.gTo, .sl (List.map cI.i64 c134_.gKids)] [])], []⟩ _ (by kernel_rfl) (.cons (at_obl (c := GCell.c) (GCell.c_eq c134_) GCell.c_len h117) (.cons (len_ok 5 [.int .i64 c134_.gKind, .str c134_.gName, .int .i64 c134_.gNum, .int .i64 c134_.gTo, .sl (List.map cI.i64 c134_.gKids)]) .nil)) ?_
          refine Wc.seqJ (fun st => st = ⟨[(1, (.ptr 1 0, [])), (3, (.v (.int .i64 (e132_.gCells.length : Int)), [])), (4, (.v (.int .i64 b133_), [])), (5, (.ptr 5 0, []))], [(1, .cells [.sl (List.map GCell.c e132_.gCells), .sl (List.map cI.i64 e132_.gTrail)] []), (5, .cells [.int .i64 c134_.gKind, .str c134_.gName, .int .i64 c134_.gNum, .int .i64 c134_.gTo, .sl (List.map cI.i64 c134_.gKids)] [])], []⟩ ∧ pspec_HeapOk_J2 k (pspec_HeapOk_L1 k e132_ m) c134_ e132_ b133_ = some out1) ?_ ?_
          · refine Wc.seq ?_
            obtain ⟨l141_, h130, h115⟩ := obind h115
            rcases oif h115 with ⟨h131, h115⟩ | ⟨h131, h115⟩
            · refine Wc.region [{}, {}, { r := some (.v (.bool l141_) []) }, {}, { re := some (.bool true) }] [] [1, 3, 4, 5, 46] [1, 5] [] ⟨[(1, (.ptr 1 0, [])), (3, (.v (.int .i64 (e132_.gCells.length : Int)), [])), (4, (.v (.int .i64 b133_), [])), (5, (.ptr 5 0, [])), (46, (.v (.bool true), []))], [(1, .cells [.sl (List.map GCell.c e132_.gCells), .sl (List.map cI.i64 e132_.gTrail)] []), (5, .cells [.int .i64 c134_.gKind, .str c134_.gName, .int .i64 c134_.gNum, .int .i64 c134_.gTo, .sl (List.map cI.i64 c134_.gKids)] [])], []⟩ _ (by kernel_rfl) (.cons (cspec_l01In h130) (.cons (congrArg AV.bool h131) .nil)) ?_
              refine Wc.condT rfl (by kernel_rfl) ?_
              refine Wc.seq ?_
              refine Wc.region [] [] [2] [] [] ⟨[(2, (.v (.bool false), []))], [], []⟩ _ (by kernel_rfl) .nil ?_
              refine Wc.ret ?_
              obtain rfl := Option.some.inj h115
              obtain rfl := Option.some.inj h
              exact ⟨.inl rfl, by kernel_rfl, by kernel_rfl⟩
            · rcases oif h115 with ⟨h132, h115⟩ | ⟨h132, h115⟩
              · obtain ⟨l142_, h133, h115⟩ := obind h115
                rcases oif h115 with ⟨h134, h115⟩ | ⟨h134, h115⟩
                · refine Wc.region [{}, {}, { r := some (.v (.bool l141_) []) }, {}, { re := some (.bool false) }, {}, {}, {}, { re := some (.bool true) }, {}, {}, {}, {}, { r := some (.v (.bool l142_) []) }, {}, { re := some (.bool true) }] [] [1, 3, 4, 5, 46] [1, 5] [] ⟨[(1, (.ptr 1 0, [])), (3, (.v (.int .i64 (e132_.gCells.length : Int)), [])), (4, (.v (.int .i64 b133_), [])), (5, (.ptr 5 0, [])), (46, (.v (.bool true), []))], [(1, .cells [.sl (List.map GCell.c e132_.gCells), .sl (List.map cI.i64 e132_.gTrail)] []), (5, .cells [.int .i64 c134_.gKind, .str c134_.gName, .int .i64 c134_.gNum, .int .i64 c134_.gTo, .sl (List.map cI.i64 c134_.gKids)] [])], []⟩ _ (by kernel_rfl) (.cons (cspec_l01In h130) (.cons (congrArg AV.bool h131) (.cons (congrArg AV.bool h132) (.cons (cspec_l01In h133) (.cons (congrArg AV.bool h134) .nil))))) ?_
                  refine Wc.condT rfl (by kernel_rfl) ?_
                  refine Wc.seq ?_
                  refine Wc.region [] [] [2] [] [] ⟨[(2, (.v (.bool false), []))], [], []⟩ _ (by kernel_rfl) .nil ?_
                  refine Wc.ret ?_
                  obtain rfl := Option.some.inj h115
                  obtain rfl := Option.some.inj h
                  exact ⟨.inl rfl, by kernel_rfl, by kernel_rfl⟩
                · obtain ⟨b143_, h135, h115⟩ := obind h115
                  refine Wc.region [{}, {}, { r := some (.v (.bool l141_) []) }, {}, { re := some (.bool false) }, {}, {}, {}, { re := some (.bool true) }, {}, {}, {}, {}, { r := some (.v (.bool l142_) []) }, {}, { re := some (.bool false) }, {}, {}, { r := some (.v (.int .i64 b143_) []) }] [] [1, 3, 4, 5, 46] [1, 5] [] ⟨[(1, (.ptr 1 0, [])), (3, (.v (.int .i64 (e132_.gCells.length : Int)), [])), (4, (.v (.int .i64 b133_), [])), (5, (.ptr 5 0, [])), (46, (.v (.bool (decide (b143_ < 0))), []))], [(1, .cells [.sl (List.map GCell.c e132_.gCells), .sl (List.map cI.i64 e132_.gTrail)] []), (5, .cells [.int .i64 c134_.gKind, .str c134_.gName, .int .i64 c134_.gNum, .int .i64 c134_.gTo, .sl (List.map cI.i64 c134_.gKids)] [])], []⟩ _ (by kernel_rfl) (.cons (cspec_l01In h130) (.cons (congrArg AV.bool h131) (.cons (congrArg AV.bool h132) (.cons (cspec_l01In h133) (.cons (congrArg AV.bool h134) (.cons (cspec_FollowCell h135) .nil)))))) ?_
                  rcases oif h115 with ⟨h136, h115⟩ | ⟨h136, h115⟩
                  · refine Wc.condT h136 (by kernel_rfl) ?_
                    refine Wc.seq ?_
                    refine Wc.region [] [] [2] [] [] ⟨[(2, (.v (.bool false), []))], [], []⟩ _ (by kernel_rfl) .nil ?_
                    refine Wc.ret ?_
                    obtain rfl := Option.some.inj h115
                    obtain rfl := Option.some.inj h
                    exact ⟨.inl rfl, by kernel_rfl, by kernel_rfl⟩
                  · refine Wc.condF h136 (by kernel_rfl) ?_
                    refine Wc.fix (st' := ⟨[(1, (.ptr 1 0, [])), (3, (.v (.int .i64 (e132_.gCells.length : Int)), [])), (4, (.v (.int .i64 b133_), [])), (5, (.ptr 5 0, []))], [(1, .cells [.sl (List.map GCell.c e132_.gCells), .sl (List.map cI.i64 e132_.gTrail)] []), (5, .cells [.int .i64 c134_.gKind, .str c134_.gName, .int .i64 c134_.gNum, .int .i64 c134_.gTo, .sl (List.map cI.i64 c134_.gKids)] [])], []⟩) [] [1, 3, 4, 5] [1, 5] [] (by kernel_rfl) ?_
                    refine Wc.skip ?_
                    exact ⟨rfl, h115⟩
              · refine Wc.region [{}, {}, { r := some (.v (.bool l141_) []) }, {}, { re := some (.bool false) }, {}, {}, {}, { re := some (.bool false) }] [] [1, 3, 4, 5, 46] [1, 5] [] ⟨[(1, (.ptr 1 0, [])), (3, (.v (.int .i64 (e132_.gCells.length : Int)), [])), (4, (.v (.int .i64 b133_), [])), (5, (.ptr 5 0, [])), (46, (.v (.bool false), []))], [(1, .cells [.sl (List.map GCell.c e132_.gCells), .sl (List.map cI.i64 e132_.gTrail)] []), (5, .cells [.int .i64 c134_.gKind, .str c134_.gName, .int .i64 c134_.gNum, .int .i64 c134_.gTo, .sl (List.map cI.i64 c134_.gKids)] [])], []⟩ _ (by kernel_rfl) (.cons (cspec_l01In h130) (.cons (congrArg AV.bool h131) (.cons (congrArg AV.bool h132) .nil))) ?_
                refine Wc.condF rfl (by kernel_rfl) ?_
                refine Wc.fix (st' := ⟨[(1, (.ptr 1 0, [])), (3, (.v (.int .i64 (e132_.gCells.length : Int)), [])), (4, (.v (.int .i64 b133_), [])), (5, (.ptr 5 0, []))], [(1, .cells [.sl (List.map GCell.c e132_.gCells), .sl (List.map cI.i64 e132_.gTrail)] []), (5, .cells [.int .i64 c134_.gKind, .str c134_.gName, .int .i64 c134_.gNum, .int .i64 c134_.gTo, .sl (List.map cI.i64 c134_.gKids)] [])], []⟩) [] [1, 3, 4, 5] [1, 5] [] (by kernel_rfl) ?_
                refine Wc.skip ?_
                exact ⟨rfl, h115⟩
          · rintro st ⟨rfl, h115⟩
            refine Wc.seq ?_
            refine Wc.seq ?_
            refine Wc.region [] [] [1, 3, 4, 5, 6] [1, 5] [] ⟨[(1, (.ptr 1 0, [])), (3, (.v (.int .i64 (e132_.gCells.length : Int)), [])), (4, (.v (.int .i64 b133_), [])), (5, (.ptr 5 0, [])), (6, (.v (.int .i64 0), []))], [(1, .cells [.sl (List.map GCell.c e132_.gCells), .sl (List.map cI.i64 e132_.gTrail)] []), (5, .cells [.int .i64 c134_.gKind, .str c134_.gName, .int .i64 c134_.gNum, .int .i64 c134_.gTo, .sl (List.map cI.i64 c134_.gKids)] [])], []⟩ _ (by kernel_rfl) .nil ?_
            obtain ⟨out3, h118, h115⟩ := obind h115
            refine Wc.lastJ (fun st => out3 = .done () ∧ st = ⟨[(1, (.ptr 1 0, [])), (3, (.v (.int .i64 (e132_.gCells.length : Int)), [])), (4, (.v (.int .i64 b133_), [])), (5, (.ptr 5 0, []))], [(1, .cells [.sl (List.map GCell.c e132_.gCells), .sl (List.map cI.i64 e132_.gTrail)] []), (5, .cells [.int .i64 c134_.gKind, .str c134_.gName, .int .i64 c134_.gNum, .int .i64 c134_.gTo, .sl (List.map cI.i64 c134_.gKids)] [])], []⟩) ?_ ?_
            · refine Wc.block ?_
              refine Wc.loop (fun m st => ∃ (b135_ : Int), st = ⟨[(1, (.ptr 1 0, [])), (3, (.v (.int .i64 (e132_.gCells.length : Int)), [])), (4, (.v (.int .i64 b133_), [])), (5, (.ptr 5 0, [])), (6, (.v (.int .i64 b135_), []))], [(1, .cells [.sl (List.map GCell.c e132_.gCells), .sl (List.map cI.i64 e132_.gTrail)] []), (5, .cells [.int .i64 c134_.gKind, .str c134_.gName, .int .i64 c134_.gNum, .int .i64 c134_.gTo, .sl (List.map cI.i64 c134_.gKids)] [])], []⟩ ∧ pspec_HeapOk_L3 k c134_ e132_ m b135_ = some out3) ?_ k ⟨_, rfl, h118⟩
              rintro m st ⟨b135_, rfl, h118⟩
              cases m with
              | zero => exact (onone h118).elim
              | succ m =>
                refine Wc.seq ?_
                refine Wc.seq ?_
                refine Wc.region [{}, {}, {}, { v := some (.int .i64 (c134_.gKids.length : Int)) }] [] [1, 3, 4, 5, 6, 51] [1, 5] [] ⟨[(1, (.ptr 1 0, [])), (3, (.v (.int .i64 (e132_.gCells.length : Int)), [])), (4, (.v (.int .i64 b133_), [])), (5, (.ptr 5 0, [])), (6, (.v (.int .i64 b135_), [])), (51, (.v (.bool (decide (b135_ < (c134_.gKids.length : Int)))), []))], [(1, .cells [.sl (List.map GCell.c e132_.gCells), .sl (List.map cI.i64 e132_.gTrail)] []), (5, .cells [.int .i64 c134_.gKind, .str c134_.gName, .int .i64 c134_.gNum, .int .i64 c134_.gTo, .sl (List.map cI.i64 c134_.gKids)] [])], []⟩ _ (by kernel_rfl) (.cons (len_obl cI.i64 c134_.gKids) .nil) ?_
                rcases oif h118 with ⟨h119, h118⟩ | ⟨h119, h118⟩
                · refine Wc.condT h119 (by kernel_rfl) ?_
                  refine Wc.fix (st' := ⟨[(1, (.ptr 1 0, [])), (3, (.v (.int .i64 (e132_.gCells.length : Int)), [])), (4, (.v (.int .i64 b133_), [])), (5, (.ptr 5 0, [])), (6, (.v (.int .i64 b135_), []))], [(1, .cells [.sl (List.map GCell.c e132_.gCells), .sl (List.map cI.i64 e132_.gTrail)] []), (5, .cells [.int .i64 c134_.gKind, .str c134_.gName, .int .i64 c134_.gNum, .int .i64 c134_.gTo, .sl (List.map cI.i64 c134_.gKids)] [])], []⟩) [] [1, 3, 4, 5, 6] [1, 5] [] (by kernel_rfl) ?_
                  refine Wc.skip ?_
                  refine Wc.seq ?_
                  refine Wc.block ?_
                  refine Wc.seq ?_
                  obtain ⟨b136_, h120, h118⟩ := obind h118
                  obtain ⟨l137_, h121, h118⟩ := obind h118
                  refine Wc.region [{}, {}, {}, { v := some (.vptr [.int .i64 b136_]) }, {}, {}, {}, { r := some (.v (.bool l137_) []) }] [] [1, 3, 4, 5, 6, 62] [1, 5] [] ⟨[(1, (.ptr 1 0, [])), (3, (.v (.int .i64 (e132_.gCells.length : Int)), [])), (4, (.v (.int .i64 b133_), [])), (5, (.ptr 5 0, [])), (6, (.v (.int .i64 b135_), [])), (62, (.v (.bool (!l137_)), []))], [(1, .cells [.sl (List.map GCell.c e132_.gCells), .sl (List.map cI.i64 e132_.gTrail)] []), (5, .cells [.int .i64 c134_.gKind, .str c134_.gName, .int .i64 c134_.gNum, .int .i64 c134_.gTo, .sl (List.map cI.i64 c134_.gKids)] [])], []⟩ _ (by kernel_rfl) (.cons (at_obl (c := cI.i64) rfl cI.i64_len h120) (.cons (len_ok 1 [.int .i64 b136_]) (.cons (cspec_l01In h121) .nil))) ?_
                  rcases oif h118 with ⟨h122, h118⟩ | ⟨h122, h118⟩
                  · refine Wc.condT h122 (by kernel_rfl) ?_
                    refine Wc.seq ?_
                    refine Wc.region [] [] [2] [] [] ⟨[(2, (.v (.bool false), []))], [], []⟩ _ (by kernel_rfl) .nil ?_
                    refine Wc.ret ?_
                    obtain rfl := Option.some.inj h118
                    obtain rfl := Option.some.inj h115
                    obtain rfl := Option.some.inj h
                    exact ⟨.inl rfl, by kernel_rfl, by kernel_rfl⟩
                  · refine Wc.condF h122 (by kernel_rfl) ?_
                    refine Wc.fix (st' := ⟨[(1, (.ptr 1 0, [])), (3, (.v (.int .i64 (e132_.gCells.length : Int)), [])), (4, (.v (.int .i64 b133_), [])), (5, (.ptr 5 0, [])), (6, (.v (.int .i64 b135_), []))], [(1, .cells [.sl (List.map GCell.c e132_.gCells), .sl (List.map cI.i64 e132_.gTrail)] []), (5, .cells [.int .i64 c134_.gKind, .str c134_.gName, .int .i64 c134_.gNum, .int .i64 c134_.gTo, .sl (List.map cI.i64 c134_.gKids)] [])], []⟩) [] [1, 3, 4, 5, 6] [1, 5] [] (by kernel_rfl) ?_
                    refine Wc.skip ?_
                    refine Wc.region [] [] [1, 3, 4, 5, 6] [1, 5] [] ⟨[(1, (.ptr 1 0, [])), (3, (.v (.int .i64 (e132_.gCells.length : Int)), [])), (4, (.v (.int .i64 b133_), [])), (5, (.ptr 5 0, [])), (6, (.v (.int .i64 (wr.i64 (b135_ + 1))), []))], [(1, .cells [.sl (List.map GCell.c e132_.gCells), .sl (List.map cI.i64 e132_.gTrail)] []), (5, .cells [.int .i64 c134_.gKind, .str c134_.gName, .int .i64 c134_.gNum, .int .i64 c134_.gTo, .sl (List.map cI.i64 c134_.gKids)] [])], []⟩ _ (by kernel_rfl) .nil ?_
                    exact ⟨_, Nat.lt_succ_self _, _, rfl, h118⟩
                · refine Wc.condF h119 (by kernel_rfl) ?_
                  refine Wc.fix (st' := ⟨[(1, (.ptr 1 0, [])), (3, (.v (.int .i64 (e132_.gCells.length : Int)), [])), (4, (.v (.int .i64 b133_), [])), (5, (.ptr 5 0, []))], [(1, .cells [.sl (List.map GCell.c e132_.gCells), .sl (List.map cI.i64 e132_.gTrail)] []), (5, .cells [.int .i64 c134_.gKind, .str c134_.gName, .int .i64 c134_.gNum, .int .i64 c134_.gTo, .sl (List.map cI.i64 c134_.gKids)] [])], []⟩) [] [1, 3, 4, 5] [1, 5] [] (by kernel_rfl) ?_
                  refine Wc.exit ?_
                  obtain rfl := Option.some.inj h118
                  exact ⟨rfl, rfl⟩
            · rintro st ⟨rfl, rfl⟩
              refine Wc.seq ?_
              refine Wc.region [] [] [1, 3, 4, 5, 7] [1, 5] [] ⟨[(1, (.ptr 1 0, [])), (3, (.v (.int .i64 (e132_.gCells.length : Int)), [])), (4, (.v (.int .i64 b133_), [])), (5, (.ptr 5 0, [])), (7, (.v (.int .i64 0), []))], [(1, .cells [.sl (List.map GCell.c e132_.gCells), .sl (List.map cI.i64 e132_.gTrail)] []), (5, .cells [.int .i64 c134_.gKind, .str c134_.gName, .int .i64 c134_.gNum, .int .i64 c134_.gTo, .sl (List.map cI.i64 c134_.gKids)] [])], []⟩ _ (by kernel_rfl) .nil ?_
              obtain ⟨out4, h123, h115⟩ := obind h115
              refine Wc.lastJ (fun st => out4 = .done () ∧ st = ⟨[(1, (.ptr 1 0, [])), (3, (.v (.int .i64 (e132_.gCells.length : Int)), [])), (4, (.v (.int .i64 b133_), []))], [(1, .cells [.sl (List.map GCell.c e132_.gCells), .sl (List.map cI.i64 e132_.gTrail)] [])], []⟩) ?_ ?_
              · refine Wc.block ?_
                refine Wc.loop (fun m st => ∃ (b138_ : Int), st = ⟨[(1, (.ptr 1 0, [])), (3, (.v (.int .i64 (e132_.gCells.length : Int)), [])), (4, (.v (.int .i64 b133_), [])), (5, (.ptr 5 0, [])), (7, (.v (.int .i64 b138_), []))], [(1, .cells [.sl (List.map GCell.c e132_.gCells), .sl (List.map cI.i64 e132_.gTrail)] []), (5, .cells [.int .i64 c134_.gKind, .str c134_.gName, .int .i64 c134_.gNum, .int .i64 c134_.gTo, .sl (List.map cI.i64 c134_.gKids)] [])], []⟩ ∧ pspec_HeapOk_L4 k b133_ c134_ e132_ m b138_ = some out4) ?_ k ⟨_, rfl, h123⟩
                rintro m st ⟨b138_, rfl, h123⟩
                cases m with
                | zero => exact (onone h123).elim
                | succ m =>
                  refine Wc.seq ?_
                  refine Wc.seq ?_
                  rcases oif h123 with ⟨h124, h123⟩ | ⟨h124, h123⟩
                  · refine Wc.region [{}, {}, {}, { re := some (.bool true) }] [] [1, 3, 4, 5, 7, 70] [1, 5] [] ⟨[(1, (.ptr 1 0, [])), (3, (.v (.int .i64 (e132_.gCells.length : Int)), [])), (4, (.v (.int .i64 b133_), [])), (5, (.ptr 5 0, [])), (7, (.v (.int .i64 b138_), [])), (70, (.v (.bool (c134_.gKind == 1)), []))], [(1, .cells [.sl (List.map GCell.c e132_.gCells), .sl (List.map cI.i64 e132_.gTrail)] []), (5, .cells [.int .i64 c134_.gKind, .str c134_.gName, .int .i64 c134_.gNum, .int .i64 c134_.gTo, .sl (List.map cI.i64 c134_.gKids)] [])], []⟩ _ (by kernel_rfl) (.cons (congrArg AV.bool h124) .nil) ?_
                    rcases oif h123 with ⟨h125, h123⟩ | ⟨h125, h123⟩
                    · refine Wc.condT h125 (by kernel_rfl) ?_
                      refine Wc.fix (st' := ⟨[(1, (.ptr 1 0, [])), (3, (.v (.int .i64 (e132_.gCells.length : Int)), [])), (4, (.v (.int .i64 b133_), [])), (5, (.ptr 5 0, [])), (7, (.v (.int .i64 b138_), []))], [(1, .cells [.sl (List.map GCell.c e132_.gCells), .sl (List.map cI.i64 e132_.gTrail)] []), (5, .cells [.int .i64 c134_.gKind, .str c134_.gName, .int .i64 c134_.gNum, .int .i64 c134_.gTo, .sl (List.map cI.i64 c134_.gKids)] [])], []⟩) [] [1, 3, 4, 5, 7] [1, 5] [] (by kernel_rfl) ?_
                      refine Wc.skip ?_
                      refine Wc.seq ?_
                      refine Wc.block ?_
                      refine Wc.seq ?_
                      obtain ⟨c139_, h126, h123⟩ := obind h123
                      rcases oif h123 with ⟨h127, h123⟩ | ⟨h127, h123⟩
                      · obtain ⟨c140_, h128, h123⟩ := obind h123
                        refine Wc.draw hmix [{}, {}, {}, { v := some (.vptr [.int .i64 c139_.gKind, .str c139_.gName, .int .i64 c139_.gNum, .int .i64 c139_.gTo, .sl (List.map cI.i64 c139_.gKids)]) }, {}, {}, {}, { re := some (.bool true) }, {}, {}, {}, { v := some (.vptr [.int .i64 c140_.gKind, .str c140_.gName, .int .i64 c140_.gNum, .int .i64 c140_.gTo, .sl (List.map cI.i64 c140_.gKids)]) }] [] [1, 3, 4, 5, 7, 90] [1, 5] [] ⟨[(1, (.ptr 1 0, [])), (3, (.v (.int .i64 (e132_.gCells.length : Int)), [])), (4, (.v (.int .i64 b133_), [])), (5, (.ptr 5 0, [])), (7, (.v (.int .i64 b138_), [])), (90, (.v (.bool (c140_.gNum == c134_.gNum)), []))], [(1, .cells [.sl (List.map GCell.c e132_.gCells), .sl (List.map cI.i64 e132_.gTrail)] []), (5, .cells [.int .i64 c134_.gKind, .str c134_.gName, .int .i64 c134_.gNum, .int .i64 c134_.gTo, .sl (List.map cI.i64 c134_.gKids)] [])], []⟩ _ (by kernel_rfl) (fun X => by kernel_rfl) (.cons (at_obl (c := GCell.c) (GCell.c_eq c139_) GCell.c_len h126) (.cons (len_ok 1 [.int .i64 c139_.gKind, .str c139_.gName, .int .i64 c139_.gNum, .int .i64 c139_.gTo, .sl (List.map cI.i64 c139_.gKids)]) (.cons (congrArg AV.bool h127) (.cons (at_obl (c := GCell.c) (GCell.c_eq c140_) GCell.c_len h128) (.cons (len_ok 1 [.int .i64 c140_.gNum, .int .i64 c140_.gTo, .sl (List.map cI.i64 c140_.gKids)]) .nil))))) ?_
                        rcases oif h123 with ⟨h129, h123⟩ | ⟨h129, h123⟩
                        · refine Wc.condT h129 (by kernel_rfl) ?_
                          refine Wc.seq ?_
                          refine Wc.region [] [] [2] [] [] ⟨[(2, (.v (.bool false), []))], [], []⟩ _ (by kernel_rfl) .nil ?_
                          refine Wc.ret ?_
                          obtain rfl := Option.some.inj h123
                          obtain rfl := Option.some.inj h115
                          obtain rfl := Option.some.inj h
                          exact ⟨.inl rfl, by kernel_rfl, by kernel_rfl⟩
                        · refine Wc.condF h129 (by kernel_rfl) ?_
                          refine Wc.fix (st' := ⟨[(1, (.ptr 1 0, [])), (3, (.v (.int .i64 (e132_.gCells.length : Int)), [])), (4, (.v (.int .i64 b133_), [])), (5, (.ptr 5 0, [])), (7, (.v (.int .i64 b138_), []))], [(1, .cells [.sl (List.map GCell.c e132_.gCells), .sl (List.map cI.i64 e132_.gTrail)] []), (5, .cells [.int .i64 c134_.gKind, .str c134_.gName, .int .i64 c134_.gNum, .int .i64 c134_.gTo, .sl (List.map cI.i64 c134_.gKids)] [])], []⟩) [] [1, 3, 4, 5, 7] [1, 5] [] (by kernel_rfl) ?_
                          refine Wc.skip ?_
                          refine Wc.region [] [] [1, 3, 4, 5, 7] [1, 5] [] ⟨[(1, (.ptr 1 0, [])), (3, (.v (.int .i64 (e132_.gCells.length : Int)), [])), (4, (.v (.int .i64 b133_), [])), (5, (.ptr 5 0, [])), (7, (.v (.int .i64 (wr.i64 (b138_ + 1))), []))], [(1, .cells [.sl (List.map GCell.c e132_.gCells), .sl (List.map cI.i64 e132_.gTrail)] []), (5, .cells [.int .i64 c134_.gKind, .str c134_.gName, .int .i64 c134_.gNum, .int .i64 c134_.gTo, .sl (List.map cI.i64 c134_.gKids)] [])], []⟩ _ (by kernel_rfl) .nil ?_
                          exact ⟨_, Nat.lt_succ_self _, _, rfl, h123⟩
                      · refine Wc.draw hmix [{}, {}, {}, { v := some (.vptr [.int .i64 c139_.gKind, .str c139_.gName, .int .i64 c139_.gNum, .int .i64 c139_.gTo, .sl (List.map cI.i64 c139_.gKids)]) }, {}, {}, {}, { re := some (.bool false) }] [] [1, 3, 4, 5, 7, 90] [1, 5] [] ⟨[(1, (.ptr 1 0, [])), (3, (.v (.int .i64 (e132_.gCells.length : Int)), [])), (4, (.v (.int .i64 b133_), [])), (5, (.ptr 5 0, [])), (7, (.v (.int .i64 b138_), [])), (90, (.v (.bool false), []))], [(1, .cells [.sl (List.map GCell.c e132_.gCells), .sl (List.map cI.i64 e132_.gTrail)] []), (5, .cells [.int .i64 c134_.gKind, .str c134_.gName, .int .i64 c134_.gNum, .int .i64 c134_.gTo, .sl (List.map cI.i64 c134_.gKids)] [])], []⟩ _ (by kernel_rfl) (fun X => by kernel_rfl) (.cons (at_obl (c := GCell.c) (GCell.c_eq c139_) GCell.c_len h126) (.cons (len_ok 1 [.int .i64 c139_.gKind, .str c139_.gName, .int .i64 c139_.gNum, .int .i64 c139_.gTo, .sl (List.map cI.i64 c139_.gKids)]) (.cons (congrArg AV.bool h127) .nil))) ?_
                        refine Wc.condF rfl (by kernel_rfl) ?_
                        refine Wc.fix (st' := ⟨[(1, (.ptr 1 0, [])), (3, (.v (.int .i64 (e132_.gCells.length : Int)), [])), (4, (.v (.int .i64 b133_), [])), (5, (.ptr 5 0, [])), (7, (.v (.int .i64 b138_), []))], [(1, .cells [.sl (List.map GCell.c e132_.gCells), .sl (List.map cI.i64 e132_.gTrail)] []), (5, .cells [.int .i64 c134_.gKind, .str c134_.gName, .int .i64 c134_.gNum, .int .i64 c134_.gTo, .sl (List.map cI.i64 c134_.gKids)] [])], []⟩) [] [1, 3, 4, 5, 7] [1, 5] [] (by kernel_rfl) ?_
                        refine Wc.skip ?_
                        refine Wc.region [] [] [1, 3, 4, 5, 7] [1, 5] [] ⟨[(1, (.ptr 1 0, [])), (3, (.v (.int .i64 (e132_.gCells.length : Int)), [])), (4, (.v (.int .i64 b133_), [])), (5, (.ptr 5 0, [])), (7, (.v (.int .i64 (wr.i64 (b138_ + 1))), []))], [(1, .cells [.sl (List.map GCell.c e132_.gCells), .sl (List.map cI.i64 e132_.gTrail)] []), (5, .cells [.int .i64 c134_.gKind, .str c134_.gName, .int .i64 c134_.gNum, .int .i64 c134_.gTo, .sl (List.map cI.i64 c134_.gKids)] [])], []⟩ _ (by kernel_rfl) .nil ?_
                        exact ⟨_, Nat.lt_succ_self _, _, rfl, h123⟩
                    · refine Wc.condF h125 (by kernel_rfl) ?_
                      refine Wc.fix (st' := ⟨[(1, (.ptr 1 0, [])), (3, (.v (.int .i64 (e132_.gCells.length : Int)), [])), (4, (.v (.int .i64 b133_), []))], [(1, .cells [.sl (List.map GCell.c e132_.gCells), .sl (List.map cI.i64 e132_.gTrail)] [])], []⟩) [] [1, 3, 4] [1] [] (by kernel_rfl) ?_
                      refine Wc.exit ?_
                      obtain rfl := Option.some.inj h123
                      exact ⟨rfl, rfl⟩
                  · refine Wc.region [{}, {}, {}, { re := some (.bool false) }] [] [1, 3, 4, 5, 7, 70] [1, 5] [] ⟨[(1, (.ptr 1 0, [])), (3, (.v (.int .i64 (e132_.gCells.length : Int)), [])), (4, (.v (.int .i64 b133_), [])), (5, (.ptr 5 0, [])), (7, (.v (.int .i64 b138_), [])), (70, (.v (.bool false), []))], [(1, .cells [.sl (List.map GCell.c e132_.gCells), .sl (List.map cI.i64 e132_.gTrail)] []), (5, .cells [.int .i64 c134_.gKind, .str c134_.gName, .int .i64 c134_.gNum, .int .i64 c134_.gTo, .sl (List.map cI.i64 c134_.gKids)] [])], []⟩ _ (by kernel_rfl) (.cons (congrArg AV.bool h124) .nil) ?_
                    refine Wc.condF rfl (by kernel_rfl) ?_
                    refine Wc.fix (st' := ⟨[(1, (.ptr 1 0, [])), (3, (.v (.int .i64 (e132_.gCells.length : Int)), [])), (4, (.v (.int .i64 b133_), []))], [(1, .cells [.sl (List.map GCell.c e132_.gCells), .sl (List.map cI.i64 e132_.gTrail)] [])], []⟩) [] [1, 3, 4] [1] [] (by kernel_rfl) ?_
                    refine Wc.exit ?_
                    obtain rfl := Option.some.inj h123
                    exact ⟨rfl, rfl⟩
              · rintro st ⟨rfl, rfl⟩
                refine Wc.region [] [] [1, 3, 4] [1] [] ⟨[(1, (.ptr 1 0, [])), (3, (.v (.int .i64 (e132_.gCells.length : Int)), [])), (4, (.v (.int .i64 (wr.i64 (b133_ + 1))), []))], [(1, .cells [.sl (List.map GCell.c e132_.gCells), .sl (List.map cI.i64 e132_.gTrail)] [])], []⟩ _ (by kernel_rfl) .nil ?_
                exact ⟨_, Nat.lt_succ_self _, _, rfl, h115⟩
        · refine Wc.condF h116 (by kernel_rfl) ?_
          refine Wc.fix (st' := ⟨[(1, (.ptr 1 0, [])), (3, (.v (.int .i64 (e132_.gCells.length : Int)), []))], [(1, .cells [.sl (List.map GCell.c e132_.gCells), .sl (List.map cI.i64 e132_.gTrail)] [])], []⟩) [] [1, 3] [1] [] (by kernel_rfl) ?_
          refine Wc.exit ?_
          obtain rfl := Option.some.inj h115
          exact ⟨rfl, rfl⟩
    · rintro st ⟨rfl, rfl⟩
      refine Wc.seq ?_
      refine Wc.seq ?_
      refine Wc.region [] [] [1, 3, 8] [1] [] ⟨[(1, (.ptr 1 0, [])), (3, (.v (.int .i64 (e132_.gCells.length : Int)), [])), (8, (.v (.int .i64 0), []))], [(1, .cells [.sl (List.map GCell.c e132_.gCells), .sl (List.map cI.i64 e132_.gTrail)] [])], []⟩ _ (by kernel_rfl) .nil ?_
      obtain ⟨out5, h137, h⟩ := obind h
      refine Wc.lastJ (fun st => out5 = .done () ∧ st = ⟨[], [], []⟩) ?_ ?_
      · refine Wc.block ?_
        refine Wc.loop (fun m st => ∃ (b144_ : Int), st = ⟨[(1, (.ptr 1 0, [])), (3, (.v (.int .i64 (e132_.gCells.length : Int)), [])), (8, (.v (.int .i64 b144_), []))], [(1, .cells [.sl (List.map GCell.c e132_.gCells), .sl (List.map cI.i64 e132_.gTrail)] [])], []⟩ ∧ pspec_HeapOk_L5 k e132_ m b144_ = some out5) ?_ k ⟨_, rfl, h137⟩
        rintro m st ⟨b144_, rfl, h137⟩
        cases m with
        | zero => exact (onone h137).elim
        | succ m =>
          refine Wc.seq ?_
          refine Wc.seq ?_
          refine Wc.region [{}, {}, {}, { v := some (.int .i64 (e132_.gTrail.length : Int)) }] [] [1, 3, 8, 95] [1] [] ⟨[(1, (.ptr 1 0, [])), (3, (.v (.int .i64 (e132_.gCells.length : Int)), [])), (8, (.v (.int .i64 b144_), [])), (95, (.v (.bool (decide (b144_ < (e132_.gTrail.length : Int)))), []))], [(1, .cells [.sl (List.map GCell.c e132_.gCells), .sl (List.map cI.i64 e132_.gTrail)] [])], []⟩ _ (by kernel_rfl) (.cons (len_obl cI.i64 e132_.gTrail) .nil) ?_
          rcases oif h137 with ⟨h138, h137⟩ | ⟨h138, h137⟩
          · refine Wc.condT h138 (by kernel_rfl) ?_
            refine Wc.fix (st' := ⟨[(1, (.ptr 1 0, [])), (3, (.v (.int .i64 (e132_.gCells.length : Int)), [])), (8, (.v (.int .i64 b144_), []))], [(1, .cells [.sl (List.map GCell.c e132_.gCells), .sl (List.map cI.i64 e132_.gTrail)] [])], []⟩) [] [1, 3, 8] [1] [] (by kernel_rfl) ?_
            refine Wc.skip ?_
            refine Wc.seq ?_
            refine Wc.block ?_
            refine Wc.seq ?_
            obtain ⟨b145_, h139, h137⟩ := obind h137
            obtain ⟨l146_, h140, h137⟩ := obind h137
            rcases oif h137 with ⟨h141, h137⟩ | ⟨h141, h137⟩
            · refine Wc.draw hmix [{}, {}, {}, { v := some (.vptr [.int .i64 b145_]) }, {}, {}, {}, { r := some (.v (.bool l146_) []) }, {}, { re := some (.bool true) }] [] [1, 3, 8, 119] [1] [] ⟨[(1, (.ptr 1 0, [])), (3, (.v (.int .i64 (e132_.gCells.length : Int)), [])), (8, (.v (.int .i64 b144_), [])), (119, (.v (.bool true), []))], [(1, .cells [.sl (List.map GCell.c e132_.gCells), .sl (List.map cI.i64 e132_.gTrail)] [])], []⟩ _ (by kernel_rfl) (fun X => by kernel_rfl) (.cons (at_obl (c := cI.i64) rfl cI.i64_len h139) (.cons (len_ok 1 [.int .i64 b145_]) (.cons (cspec_l01In h140) (.cons (congrArg AV.bool h141) .nil)))) ?_
              refine Wc.condT rfl (by kernel_rfl) ?_
              refine Wc.seq ?_
              refine Wc.region [] [] [2] [] [] ⟨[(2, (.v (.bool false), []))], [], []⟩ _ (by kernel_rfl) .nil ?_
              refine Wc.ret ?_
              obtain rfl := Option.some.inj h137
              obtain rfl := Option.some.inj h
              exact ⟨.inl rfl, by kernel_rfl, by kernel_rfl⟩
            · obtain ⟨b147_, h142, h137⟩ := obind h137
              obtain ⟨c148_, h143, h137⟩ := obind h137
              refine Wc.draw hmix [{}, {}, {}, { v := some (.vptr [.int .i64 b145_]) }, {}, {}, {}, { r := some (.v (.bool l146_) []) }, {}, { re := some (.bool false) }, {}, {}, {}, {}, {}, { v := some (.vptr [.int .i64 b147_]) }, {}, { v := some (.vptr [.int .i64 c148_.gKind, .str c148_.gName, .int .i64 c148_.gNum, .int .i64 c148_.gTo, .sl (List.map cI.i64 c148_.gKids)]) }] [] [1, 3, 8, 119] [1] [] ⟨[(1, (.ptr 1 0, [])), (3, (.v (.int .i64 (e132_.gCells.length : Int)), [])), (8, (.v (.int .i64 b144_), [])), (119, (.v (.bool (c148_.gKind != 1)), []))], [(1, .cells [.sl (List.map GCell.c e132_.gCells), .sl (List.map cI.i64 e132_.gTrail)] [])], []⟩ _ (by kernel_rfl) (fun X => by kernel_rfl) (.cons (at_obl (c := cI.i64) rfl cI.i64_len h139) (.cons (len_ok 1 [.int .i64 b145_]) (.cons (cspec_l01In h140) (.cons (congrArg AV.bool h141) (.cons (at_obl (c := cI.i64) rfl cI.i64_len h142) (.cons (len_ok 1 [.int .i64 b147_]) (.cons (at_obl (c := GCell.c) (GCell.c_eq c148_) GCell.c_len h143) (.cons (len_ok 1 [.int .i64 c148_.gKind, .str c148_.gName, .int .i64 c148_.gNum, .int .i64 c148_.gTo, .sl (List.map cI.i64 c148_.gKids)]) .nil)))))))) ?_
              rcases oif h137 with ⟨h144, h137⟩ | ⟨h144, h137⟩
              · refine Wc.condT h144 (by kernel_rfl) ?_
                refine Wc.seq ?_
                refine Wc.region [] [] [2] [] [] ⟨[(2, (.v (.bool false), []))], [], []⟩ _ (by kernel_rfl) .nil ?_
                refine Wc.ret ?_
                obtain rfl := Option.some.inj h137
                obtain rfl := Option.some.inj h
                exact ⟨.inl rfl, by kernel_rfl, by kernel_rfl⟩
              · refine Wc.condF h144 (by kernel_rfl) ?_
                refine Wc.fix (st' := ⟨[(1, (.ptr 1 0, [])), (3, (.v (.int .i64 (e132_.gCells.length : Int)), [])), (8, (.v (.int .i64 b144_), []))], [(1, .cells [.sl (List.map GCell.c e132_.gCells), .sl (List.map cI.i64 e132_.gTrail)] [])], []⟩) [] [1, 3, 8] [1] [] (by kernel_rfl) ?_
                refine Wc.skip ?_
                refine Wc.region [] [] [1, 3, 8] [1] [] ⟨[(1, (.ptr 1 0, [])), (3, (.v (.int .i64 (e132_.gCells.length : Int)), [])), (8, (.v (.int .i64 (wr.i64 (b144_ + 1))), []))], [(1, .cells [.sl (List.map GCell.c e132_.gCells), .sl (List.map cI.i64 e132_.gTrail)] [])], []⟩ _ (by kernel_rfl) .nil ?_
                exact ⟨_, Nat.lt_succ_self _, _, rfl, h137⟩
          · refine Wc.condF h138 (by kernel_rfl) ?_
            refine Wc.fix (st' := ⟨[], [], []⟩) [] [] [] [] (by kernel_rfl) ?_
            refine Wc.exit ?_
            obtain rfl := Option.some.inj h137
            exact ⟨rfl, rfl⟩
      · rintro st ⟨rfl, rfl⟩
        refine Wc.seq ?_
        refine Wc.region [] [] [2] [] [] ⟨[(2, (.v (.bool true), []))], [], []⟩ _ (by kernel_rfl) .nil ?_
        refine Wc.ret ?_
        obtain rfl := Option.some.inj h
        exact ⟨.inl rfl, by kernel_rfl, by kernel_rfl⟩

def pspec_l03Count_L1 (k : Nat) (rspec_l03Count : GTerm → Int → Option Int) (j149_ : GTerm) : Nat → Int → Int → Option (Out Int Int)
  | 0, _, _ => none
  | m + 1, b151_, b152_ =>
    if (decide (b152_ < (j149_.gKids.length : Int))) = true then
      if (decide (b151_ ≥ 0)) = true then
        (at' j149_.gKids b152_).bind fun j154_ =>
        (rspec_l03Count j154_ b151_).bind fun b155_ =>
        pspec_l03Count_L1 k rspec_l03Count j149_ m b155_ (wr.i64 (b152_ + 1))
      else
        some (.done b151_)
    else
      some (.done b151_)
mutual
/-- spec.l03Count -/
def pspec_l03Count : Nat → GTerm → Int → Option Int
  | 0, _, _ => none
  | k + 1, j149_, b150_ =>
    (pspec_l03Count_L1 k (pspec_l03Count k) j149_ k (wr.i64 (b150_ - 1)) 0).bind fun out1 => match out1 with
    | .ret r => some r
    | .done b153_ =>
      some b153_
end
theorem all_pspec_l03Count : ∀ k : Nat, (∀ {j149_ : GTerm} {b150_ : Int} {r : Int}, pspec_l03Count k j149_ b150_ = some r → FnO Try.prog 119 [.v (.agg [.int .i64 j149_.gKind, .str j149_.gName, .int .i64 j149_.gNum, .sl (List.map GTerm.c j149_.gKids)]) [], .v (.int .i64 b150_) []] (.v (.int .i64 r) []) []) := by
  intro k
  induction k with
  | zero =>
    · intro j149_ b150_ r h
      exact (onone (by rw [pspec_l03Count] at h; exact h)).elim
  | succ k ih =>
    have ih_pspec_l03Count := @ih
    · intro j149_ b150_ r h
      rw [pspec_l03Count] at h
      refine FnO.of Try.func119 (rfl : Try.f119.body = some _) (Nat.le_of_ble_eq_true (by kernel_rfl)) (Nat.le_of_ble_eq_true (by kernel_rfl)) ?_
      intro w0 X0 Fin pv0 pb
      refine Wc.seq ?_
      refine Wc.region [] [] [1, 2] [2] [] ⟨[(1, (.v (.int .i64 b150_), [])), (2, (.ptr 2 0, []))], [(2, .cells [.int .i64 j149_.gKind, .str j149_.gName, .int .i64 j149_.gNum, .sl (List.map GTerm.c j149_.gKids)] [])], []⟩ _ (by kernel_rfl) .nil ?_
      refine Wc.seq ?_
      refine Wc.region [] [] [1, 2] [2] [] ⟨[(1, (.v (.int .i64 (wr.i64 (b150_ - 1))), [])), (2, (.ptr 2 0, []))], [(2, .cells [.int .i64 j149_.gKind, .str j149_.gName, .int .i64 j149_.gNum, .sl (List.map GTerm.c j149_.gKids)] [])], []⟩ _ (by kernel_rfl) .nil ?_
      refine Wc.seq ?_
      refine Wc.seq ?_
      refine Wc.region [] [] [1, 2, 5] [2] [] ⟨[(1, (.v (.int .i64 (wr.i64 (b150_ - 1))), [])), (2, (.ptr 2 0, [])), (5, (.v (.int .i64 0), []))], [(2, .cells [.int .i64 j149_.gKind, .str j149_.gName, .int .i64 j149_.gNum, .sl (List.map GTerm.c j149_.gKids)] [])], []⟩ _ (by kernel_rfl) .nil ?_
      obtain ⟨out1, h145, h⟩ := obind h
      refine Wc.lastJ (fun st => ∃ (b153_ : Int), out1 = .done b153_ ∧ st = ⟨[(1, (.v (.int .i64 b153_), []))], [], []⟩) ?_ ?_
      · refine Wc.block ?_
        refine Wc.loop (fun m st => ∃ (b151_ : Int) (b152_ : Int), st = ⟨[(1, (.v (.int .i64 b151_), [])), (2, (.ptr 2 0, [])), (5, (.v (.int .i64 b152_), []))], [(2, .cells [.int .i64 j149_.gKind, .str j149_.gName, .int .i64 j149_.gNum, .sl (List.map GTerm.c j149_.gKids)] [])], []⟩ ∧ pspec_l03Count_L1 k (pspec_l03Count k) j149_ m b151_ b152_ = some out1) ?_ k ⟨_, _, rfl, h145⟩
        rintro m st ⟨b151_, b152_, rfl, h145⟩
        cases m with
        | zero => exact (onone h145).elim
        | succ m =>
          refine Wc.seq ?_
          refine Wc.seq ?_
          rcases oif h145 with ⟨h146, h145⟩ | ⟨h146, h145⟩
          · refine Wc.region [{}, {}, {}, { v := some (.int .i64 (j149_.gKids.length : Int)) }, {}, { re := some (.bool true) }] [] [1, 2, 5, 16] [2] [] ⟨[(1, (.v (.int .i64 b151_), [])), (2, (.ptr 2 0, [])), (5, (.v (.int .i64 b152_), [])), (16, (.v (.bool (decide (b151_ ≥ 0))), []))], [(2, .cells [.int .i64 j149_.gKind, .str j149_.gName, .int .i64 j149_.gNum, .sl (List.map GTerm.c j149_.gKids)] [])], []⟩ _ (by kernel_rfl) (.cons (len_obl GTerm.c j149_.gKids) (.cons (congrArg AV.bool h146) .nil)) ?_
            rcases oif h145 with ⟨h147, h145⟩ | ⟨h147, h145⟩
            · refine Wc.condT h147 (by kernel_rfl) ?_
              refine Wc.fix (st' := ⟨[(1, (.v (.int .i64 b151_), [])), (2, (.ptr 2 0, [])), (5, (.v (.int .i64 b152_), []))], [(2, .cells [.int .i64 j149_.gKind, .str j149_.gName, .int .i64 j149_.gNum, .sl (List.map GTerm.c j149_.gKids)] [])], []⟩) [] [1, 2, 5] [2] [] (by kernel_rfl) ?_
              refine Wc.skip ?_
              refine Wc.seq ?_
              refine Wc.block ?_
              obtain ⟨j154_, h148, h145⟩ := obind h145
              obtain ⟨b155_, h149, h145⟩ := obind h145
              refine Wc.region [{}, {}, {}, { v := some (.vptr [.int .i64 j154_.gKind, .str j154_.gName, .int .i64 j154_.gNum, .sl (List.map GTerm.c j154_.gKids)]) }, {}, {}, { r := some (.v (.int .i64 b155_) []) }] [] [1, 2, 5] [2] [] ⟨[(1, (.v (.int .i64 b155_), [])), (2, (.ptr 2 0, [])), (5, (.v (.int .i64 b152_), []))], [(2, .cells [.int .i64 j149_.gKind, .str j149_.gName, .int .i64 j149_.gNum, .sl (List.map GTerm.c j149_.gKids)] [])], []⟩ _ (by kernel_rfl) (.cons (at_obl (c := GTerm.c) (GTerm.c_eq j154_) GTerm.c_len h148) (.cons (len_ok 4 [.int .i64 j154_.gKind, .str j154_.gName, .int .i64 j154_.gNum, .sl (List.map GTerm.c j154_.gKids)]) (.cons (ih_pspec_l03Count h149) .nil))) ?_
              refine Wc.region [] [] [1, 2, 5] [2] [] ⟨[(1, (.v (.int .i64 b155_), [])), (2, (.ptr 2 0, [])), (5, (.v (.int .i64 (wr.i64 (b152_ + 1))), []))], [(2, .cells [.int .i64 j149_.gKind, .str j149_.gName, .int .i64 j149_.gNum, .sl (List.map GTerm.c j149_.gKids)] [])], []⟩ _ (by kernel_rfl) .nil ?_
              exact ⟨_, Nat.lt_succ_self _, _, _, rfl, h145⟩
            · refine Wc.condF h147 (by kernel_rfl) ?_
              refine Wc.fix (st' := ⟨[(1, (.v (.int .i64 b151_), []))], [], []⟩) [] [1] [] [] (by kernel_rfl) ?_
              refine Wc.exit ?_
              obtain rfl := Option.some.inj h145
              exact ⟨_, rfl, rfl⟩
          · refine Wc.region [{}, {}, {}, { v := some (.int .i64 (j149_.gKids.length : Int)) }, {}, { re := some (.bool false) }] [] [1, 2, 5, 16] [2] [] ⟨[(1, (.v (.int .i64 b151_), [])), (2, (.ptr 2 0, [])), (5, (.v (.int .i64 b152_), [])), (16, (.v (.bool false), []))], [(2, .cells [.int .i64 j149_.gKind, .str j149_.gName, .int .i64 j149_.gNum, .sl (List.map GTerm.c j149_.gKids)] [])], []⟩ _ (by kernel_rfl) (.cons (len_obl GTerm.c j149_.gKids) (.cons (congrArg AV.bool h146) .nil)) ?_
            refine Wc.condF rfl (by kernel_rfl) ?_
            refine Wc.fix (st' := ⟨[(1, (.v (.int .i64 b151_), []))], [], []⟩) [] [1] [] [] (by kernel_rfl) ?_
            refine Wc.exit ?_
            obtain rfl := Option.some.inj h145
            exact ⟨_, rfl, rfl⟩
      · rintro st ⟨b153_, rfl, rfl⟩
        refine Wc.seq ?_
        refine Wc.region [] [] [4] [] [] ⟨[(4, (.v (.int .i64 b153_), []))], [], []⟩ _ (by kernel_rfl) .nil ?_
        refine Wc.ret ?_
        obtain rfl := Option.some.inj h
        exact ⟨.inl rfl, by kernel_rfl, by kernel_rfl⟩
theorem cspec_l03Count {k : Nat} {j149_ : GTerm} {b150_ : Int} {r : Int} (h : pspec_l03Count k j149_ b150_ = some r) : FnO Try.prog 119 [.v (.agg [.int .i64 j149_.gKind, .str j149_.gName, .int .i64 j149_.gNum, .sl (List.map GTerm.c j149_.gKids)]) [], .v (.int .i64 b150_) []] (.v (.int .i64 r) []) [] := (all_pspec_l03Count k) h

def pspec_l03Name_L1 (k : Nat) (m156_ : ByteArray) : Nat → Int → Option (Out Bool Unit)
  | 0, _ => none
  | m + 1, b157_ =>
    if (decide (b157_ < (m156_.size : Int))) = true then
      if 0 ≤ b157_ ∧ (b157_).toNat < m156_.size then
        if (decide ((bt m156_ b157_) < 33)) = true then
          some (.ret false)
        else
          if 0 ≤ b157_ ∧ (b157_).toNat < m156_.size then
            if (decide ((bt m156_ b157_) > 126)) = true then
              some (.ret false)
            else
              if 0 ≤ b157_ ∧ (b157_).toNat < m156_.size then
                if ((bt m156_ b157_) == 39) = true then
                  some (.ret false)
                else
                  if 0 ≤ b157_ ∧ (b157_).toNat < m156_.size then
                    if ((bt m156_ b157_) == 34) = true then
                      some (.ret false)
                    else
                      pspec_l03Name_L1 k m156_ m (wr.i64 (b157_ + 1))
                  else none
              else none
          else none
      else none
    else
      some (.done ())
/-- spec.l03Name -/
def pspec_l03Name (k : Nat) (m156_ : ByteArray) : Option Bool :=
  (pspec_l03Name_L1 k m156_ k 0).bind fun out1 => match out1 with
  | .ret r => some r
  | .done () =>
    (pspec_l01In k (m156_.size : Int) 1 20).bind fun l158_ =>
    some l158_
theorem cspec_l03Name {k : Nat} {m156_ : ByteArray} {r : Bool} (h : pspec_l03Name k m156_ = some r) : FnO Try.prog 156 [.v (.str m156_) []] (.v (.bool r) []) [] := by
  refine FnO.of Try.func156 (rfl : Try.f156.body = some _) (Nat.le_of_ble_eq_true (by kernel_rfl)) (Nat.le_of_ble_eq_true (by kernel_rfl)) ?_
  intro w0 X0 Fin pv0 pb
  unfold pspec_l03Name at h
  refine Wc.seq ?_
  refine Wc.region [] [] [0] [] [] ⟨[(0, (.v (.str m156_), []))], [], []⟩ _ (by kernel_rfl) .nil ?_
  refine Wc.seq ?_
  refine Wc.seq ?_
  refine Wc.region [] [] [0, 3] [] [] ⟨[(0, (.v (.str m156_), [])), (3, (.v (.int .i64 0), []))], [], []⟩ _ (by kernel_rfl) .nil ?_
  obtain ⟨out1, h150, h⟩ := obind h
  refine Wc.lastJ (fun st => out1 = .done () ∧ st = ⟨[(0, (.v (.str m156_), []))], [], []⟩) ?_ ?_
  · refine Wc.block ?_
    refine Wc.loop (fun m st => ∃ (b157_ : Int), st = ⟨[(0, (.v (.str m156_), [])), (3, (.v (.int .i64 b157_), []))], [], []⟩ ∧ pspec_l03Name_L1 k m156_ m b157_ = some out1) ?_ k ⟨_, rfl, h150⟩
    rintro m st ⟨b157_, rfl, h150⟩
    cases m with
    | zero => exact (onone h150).elim
    | succ m =>
      refine Wc.seq ?_
      refine Wc.seq ?_
      refine Wc.region [] [] [0, 3, 7] [] [] ⟨[(0, (.v (.str m156_), [])), (3, (.v (.int .i64 b157_), [])), (7, (.v (.bool (decide (b157_ < (m156_.size : Int)))), []))], [], []⟩ _ (by kernel_rfl) .nil ?_
      rcases oif h150 with ⟨h151, h150⟩ | ⟨h151, h150⟩
      · refine Wc.condT h151 (by kernel_rfl) ?_
        refine Wc.fix (st' := ⟨[(0, (.v (.str m156_), [])), (3, (.v (.int .i64 b157_), []))], [], []⟩) [] [0, 3] [] [] (by kernel_rfl) ?_
        refine Wc.skip ?_
        refine Wc.seq ?_
        refine Wc.block ?_
        refine Wc.seq ?_
        obtain ⟨h152, h150⟩ := oguard h150
        rcases oif h150 with ⟨h153, h150⟩ | ⟨h153, h150⟩
        · refine Wc.region [{}, {}, {}, {}, { re := some (.bool true) }] [] [0, 3, 31] [] [] ⟨[(0, (.v (.str m156_), [])), (3, (.v (.int .i64 b157_), [])), (31, (.v (.bool true), []))], [], []⟩ _ (by kernel_rfl) (.cons h152 (.cons (congrArg AV.bool h153) .nil)) ?_
          refine Wc.condT rfl (by kernel_rfl) ?_
          refine Wc.seq ?_
          refine Wc.region [] [] [2] [] [] ⟨[(2, (.v (.bool false), []))], [], []⟩ _ (by kernel_rfl) .nil ?_
          refine Wc.ret ?_
          obtain rfl := Option.some.inj h150
          obtain rfl := Option.some.inj h
          exact ⟨.inl rfl, by kernel_rfl, by kernel_rfl⟩
        · obtain ⟨h154, h150⟩ := oguard h150
          rcases oif h150 with ⟨h155, h150⟩ | ⟨h155, h150⟩
          · refine Wc.region [{}, {}, {}, {}, { re := some (.bool false) }, {}, {}, {}, {}, {}, { re := some (.bool true) }] [] [0, 3, 31] [] [] ⟨[(0, (.v (.str m156_), [])), (3, (.v (.int .i64 b157_), [])), (31, (.v (.bool true), []))], [], []⟩ _ (by kernel_rfl) (.cons h152 (.cons (congrArg AV.bool h153) (.cons h154 (.cons (congrArg AV.bool h155) .nil)))) ?_
            refine Wc.condT rfl (by kernel_rfl) ?_
            refine Wc.seq ?_
            refine Wc.region [] [] [2] [] [] ⟨[(2, (.v (.bool false), []))], [], []⟩ _ (by kernel_rfl) .nil ?_
            refine Wc.ret ?_
            obtain rfl := Option.some.inj h150
            obtain rfl := Option.some.inj h
            exact ⟨.inl rfl, by kernel_rfl, by kernel_rfl⟩
          · obtain ⟨h156, h150⟩ := oguard h150
            rcases oif h150 with ⟨h157, h150⟩ | ⟨h157, h150⟩
            · refine Wc.region [{}, {}, {}, {}, { re := some (.bool false) }, {}, {}, {}, {}, {}, { re := some (.bool false) }, {}, {}, {}, {}, {}, { re := some (.bool true) }] [] [0, 3, 31] [] [] ⟨[(0, (.v (.str m156_), [])), (3, (.v (.int .i64 b157_), [])), (31, (.v (.bool true), []))], [], []⟩ _ (by kernel_rfl) (.cons h152 (.cons (congrArg AV.bool h153) (.cons h154 (.cons (congrArg AV.bool h155) (.cons h156 (.cons (congrArg AV.bool h157) .nil)))))) ?_
              refine Wc.condT rfl (by kernel_rfl) ?_
              refine Wc.seq ?_
              refine Wc.region [] [] [2] [] [] ⟨[(2, (.v (.bool false), []))], [], []⟩ _ (by kernel_rfl) .nil ?_
              refine Wc.ret ?_
              obtain rfl := Option.some.inj h150
              obtain rfl := Option.some.inj h
              exact ⟨.inl rfl, by kernel_rfl, by kernel_rfl⟩
            · obtain ⟨h158, h150⟩ := oguard h150
              refine Wc.region [{}, {}, {}, {}, { re := some (.bool false) }, {}, {}, {}, {}, {}, { re := some (.bool false) }, {}, {}, {}, {}, {}, { re := some (.bool false) }] [] [0, 3, 31] [] [] ⟨[(0, (.v (.str m156_), [])), (3, (.v (.int .i64 b157_), [])), (31, (.v (.bool ((bt m156_ b157_) == 34)), []))], [], []⟩ _ (by kernel_rfl) (.cons h152 (.cons (congrArg AV.bool h153) (.cons h154 (.cons (congrArg AV.bool h155) (.cons h156 (.cons (congrArg AV.bool h157) (.cons h158 .nil))))))) ?_
              rcases oif h150 with ⟨h159, h150⟩ | ⟨h159, h150⟩
              · refine Wc.condT h159 (by kernel_rfl) ?_
                refine Wc.seq ?_
                refine Wc.region [] [] [2] [] [] ⟨[(2, (.v (.bool false), []))], [], []⟩ _ (by kernel_rfl) .nil ?_
                refine Wc.ret ?_
                obtain rfl := Option.some.inj h150
                obtain rfl := Option.some.inj h
                exact ⟨.inl rfl, by kernel_rfl, by kernel_rfl⟩
              · refine Wc.condF h159 (by kernel_rfl) ?_
                refine Wc.fix (st' := ⟨[(0, (.v (.str m156_), [])), (3, (.v (.int .i64 b157_), []))], [], []⟩) [] [0, 3] [] [] (by kernel_rfl) ?_
                refine Wc.skip ?_
                refine Wc.region [] [] [0, 3] [] [] ⟨[(0, (.v (.str m156_), [])), (3, (.v (.int .i64 (wr.i64 (b157_ + 1))), []))], [], []⟩ _ (by kernel_rfl) .nil ?_
                exact ⟨_, Nat.lt_succ_self _, _, rfl, h150⟩
      · refine Wc.condF h151 (by kernel_rfl) ?_
        refine Wc.fix (st' := ⟨[(0, (.v (.str m156_), []))], [], []⟩) [] [0] [] [] (by kernel_rfl) ?_
        refine Wc.exit ?_
        obtain rfl := Option.some.inj h150
        exact ⟨rfl, rfl⟩
  · rintro st ⟨rfl, rfl⟩
    refine Wc.seq ?_
    obtain ⟨l158_, h160, h⟩ := obind h
    refine Wc.region [{}, {}, { r := some (.v (.bool l158_) []) }] [] [2] [] [] ⟨[(2, (.v (.bool l158_), []))], [], []⟩ _ (by kernel_rfl) (.cons (cspec_l01In h160) .nil) ?_
    refine Wc.ret ?_
    obtain rfl := Option.some.inj h
    exact ⟨.inl rfl, by kernel_rfl, by kernel_rfl⟩

/-- spec.l03One -/
def pspec_l03One (k : Nat) (j159_ : GTerm) : Option Bool :=
  if (j159_.gKind == 1) = true then
    (pspec_l01In k j159_.gNum 0 99999).bind fun l160_ =>
    if l160_ = true then
      if (sEq j159_.gName (bs [])) = true then
        some ((j159_.gKids.length : Int) == 0)
      else
        some false
    else
      some false
  else
    if (j159_.gKind == 2) = true then
      (pspec_l03Name k j159_.gName).bind fun l161_ =>
      if l161_ = true then
        if (j159_.gNum == 0) = true then
          some ((j159_.gKids.length : Int) == 0)
        else
          some false
      else
        some false
    else
      if (j159_.gKind == 3) = true then
        (pspec_l01In k j159_.gNum (-999999999) 999999999).bind fun l162_ =>
        if l162_ = true then
          if (sEq j159_.gName (bs [])) = true then
            some ((j159_.gKids.length : Int) == 0)
          else
            some false
        else
          some false
      else
        if (j159_.gKind == 4) = true then
          (pspec_l03Name k j159_.gName).bind fun l163_ =>
          if l163_ = true then
            if (j159_.gNum == 0) = true then
              (pspec_l01In k (j159_.gKids.length : Int) 1 5).bind fun l164_ =>
              some l164_
            else
              some false
          else
            some false
        else
          some false
theorem cspec_l03One {k : Nat} {j159_ : GTerm} {r : Bool} (h : pspec_l03One k j159_ = some r) : FnO Try.prog 141 [.v (.agg [.int .i64 j159_.gKind, .str j159_.gName, .int .i64 j159_.gNum, .sl (List.map GTerm.c j159_.gKids)]) []] (.v (.bool r) []) [] := by
  refine FnO.of Try.func141 (rfl : Try.f141.body = some _) (Nat.le_of_ble_eq_true (by kernel_rfl)) (Nat.le_of_ble_eq_true (by kernel_rfl)) ?_
  intro w0 X0 Fin pv0 pb
  unfold pspec_l03One at h
  refine Wc.seq ?_
  refine Wc.region [] [] [1] [1] [] ⟨[(1, (.ptr 1 0, []))], [(1, .cells [.int .i64 j159_.gKind, .str j159_.gName, .int .i64 j159_.gNum, .sl (List.map GTerm.c j159_.gKids)] [])], []⟩ _ (by kernel_rfl) .nil ?_
  refine Wc.seq ?_
  refine Wc.seq ?_
  refine Wc.region [] [] [1, 4] [1] [] ⟨[(1, (.ptr 1 0, [])), (4, (.v (.int .i64 j159_.gKind), []))], [(1, .cells [.int .i64 j159_.gKind, .str j159_.gName, .int .i64 j159_.gNum, .sl (List.map GTerm.c j159_.gKids)] [])], []⟩ _ (by kernel_rfl) .nil ?_
  refine Wc.block ?_
  refine Wc.seq ?_
  refine Wc.region [] [] [1, 4, 5] [1] [] ⟨[(1, (.ptr 1 0, [])), (4, (.v (.int .i64 j159_.gKind), [])), (5, (.v (.bool (j159_.gKind == 1)), []))], [(1, .cells [.int .i64 j159_.gKind, .str j159_.gName, .int .i64 j159_.gNum, .sl (List.map GTerm.c j159_.gKids)] [])], []⟩ _ (by kernel_rfl) .nil ?_
  rcases oif h with ⟨h161, h⟩ | ⟨h161, h⟩
  · refine Wc.condT h161 (by kernel_rfl) ?_
    refine Wc.seq ?_
    obtain ⟨l160_, h162, h⟩ := obind h
    rcases oif h with ⟨h163, h⟩ | ⟨h163, h⟩
    · rcases oif h with ⟨h164, h⟩ | ⟨h164, h⟩
      · refine Wc.region [{}, {}, { r := some (.v (.bool l160_) []) }, { re := some (.bool true) }, {}, {}, {}, {}, { re := some (.bool true) }, {}, {}, { v := some (.int .i64 (j159_.gKids.length : Int)) }] [] [2] [] [] ⟨[(2, (.v (.bool ((j159_.gKids.length : Int) == 0)), []))], [], []⟩ _ (by kernel_rfl) (.cons (cspec_l01In h162) (.cons (congrArg AV.bool h163) (.cons (congrArg AV.bool h164) (.cons (len_obl GTerm.c j159_.gKids) .nil)))) ?_
        refine Wc.ret ?_
        obtain rfl := Option.some.inj h
        exact ⟨.inl rfl, by kernel_rfl, by kernel_rfl⟩
      · refine Wc.region [{}, {}, { r := some (.v (.bool l160_) []) }, { re := some (.bool true) }, {}, {}, {}, {}, { re := some (.bool false) }] [] [2] [] [] ⟨[(2, (.v (.bool false), []))], [], []⟩ _ (by kernel_rfl) (.cons (cspec_l01In h162) (.cons (congrArg AV.bool h163) (.cons (congrArg AV.bool h164) .nil))) ?_
        refine Wc.ret ?_
        obtain rfl := Option.some.inj h
        exact ⟨.inl rfl, by kernel_rfl, by kernel_rfl⟩
    · refine Wc.region [{}, {}, { r := some (.v (.bool l160_) []) }, { re := some (.bool false) }] [] [2] [] [] ⟨[(2, (.v (.bool false), []))], [], []⟩ _ (by kernel_rfl) (.cons (cspec_l01In h162) (.cons (congrArg AV.bool h163) .nil)) ?_
      refine Wc.ret ?_
      obtain rfl := Option.some.inj h
      exact ⟨.inl rfl, by kernel_rfl, by kernel_rfl⟩
  · refine Wc.condF h161 (by kernel_rfl) ?_
    refine Wc.seq ?_
    refine Wc.region [] [] [1, 4, 21] [1] [] ⟨[(1, (.ptr 1 0, [])), (4, (.v (.int .i64 j159_.gKind), [])), (21, (.v (.bool (j159_.gKind == 2)), []))], [(1, .cells [.int .i64 j159_.gKind, .str j159_.gName, .int .i64 j159_.gNum, .sl (List.map GTerm.c j159_.gKids)] [])], []⟩ _ (by kernel_rfl) .nil ?_
    rcases oif h with ⟨h165, h⟩ | ⟨h165, h⟩
    · refine Wc.condT h165 (by kernel_rfl) ?_
      refine Wc.seq ?_
      obtain ⟨l161_, h166, h⟩ := obind h
      rcases oif h with ⟨h167, h⟩ | ⟨h167, h⟩
      · rcases oif h with ⟨h168, h⟩ | ⟨h168, h⟩
        · refine Wc.region [{}, {}, { r := some (.v (.bool l161_) []) }, { re := some (.bool true) }, {}, {}, {}, {}, { re := some (.bool true) }, {}, {}, { v := some (.int .i64 (j159_.gKids.length : Int)) }] [] [2] [] [] ⟨[(2, (.v (.bool ((j159_.gKids.length : Int) == 0)), []))], [], []⟩ _ (by kernel_rfl) (.cons (cspec_l03Name h166) (.cons (congrArg AV.bool h167) (.cons (congrArg AV.bool h168) (.cons (len_obl GTerm.c j159_.gKids) .nil)))) ?_
          refine Wc.ret ?_
          obtain rfl := Option.some.inj h
          exact ⟨.inl rfl, by kernel_rfl, by kernel_rfl⟩
        · refine Wc.region [{}, {}, { r := some (.v (.bool l161_) []) }, { re := some (.bool true) }, {}, {}, {}, {}, { re := some (.bool false) }] [] [2] [] [] ⟨[(2, (.v (.bool false), []))], [], []⟩ _ (by kernel_rfl) (.cons (cspec_l03Name h166) (.cons (congrArg AV.bool h167) (.cons (congrArg AV.bool h168) .nil))) ?_
          refine Wc.ret ?_
          obtain rfl := Option.some.inj h
          exact ⟨.inl rfl, by kernel_rfl, by kernel_rfl⟩
      · refine Wc.region [{}, {}, { r := some (.v (.bool l161_) []) }, { re := some (.bool false) }] [] [2] [] [] ⟨[(2, (.v (.bool false), []))], [], []⟩ _ (by kernel_rfl) (.cons (cspec_l03Name h166) (.cons (congrArg AV.bool h167) .nil)) ?_
        refine Wc.ret ?_
        obtain rfl := Option.some.inj h
        exact ⟨.inl rfl, by kernel_rfl, by kernel_rfl⟩
    · refine Wc.condF h165 (by kernel_rfl) ?_
      refine Wc.seq ?_
      refine Wc.region [] [] [1, 4, 37] [1] [] ⟨[(1, (.ptr 1 0, [])), (4, (.v (.int .i64 j159_.gKind), [])), (37, (.v (.bool (j159_.gKind == 3)), []))], [(1, .cells [.int .i64 j159_.gKind, .str j159_.gName, .int .i64 j159_.gNum, .sl (List.map GTerm.c j159_.gKids)] [])], []⟩ _ (by kernel_rfl) .nil ?_
      rcases oif h with ⟨h169, h⟩ | ⟨h169, h⟩
      · refine Wc.condT h169 (by kernel_rfl) ?_
        refine Wc.seq ?_
        obtain ⟨l162_, h170, h⟩ := obind h
        rcases oif h with ⟨h171, h⟩ | ⟨h171, h⟩
        · rcases oif h with ⟨h172, h⟩ | ⟨h172, h⟩
          · refine Wc.region [{}, {}, { r := some (.v (.bool l162_) []) }, { re := some (.bool true) }, {}, {}, {}, {}, { re := some (.bool true) }, {}, {}, { v := some (.int .i64 (j159_.gKids.length : Int)) }] [] [2] [] [] ⟨[(2, (.v (.bool ((j159_.gKids.length : Int) == 0)), []))], [], []⟩ _ (by kernel_rfl) (.cons (cspec_l01In h170) (.cons (congrArg AV.bool h171) (.cons (congrArg AV.bool h172) (.cons (len_obl GTerm.c j159_.gKids) .nil)))) ?_
            refine Wc.ret ?_
            obtain rfl := Option.some.inj h
            exact ⟨.inl rfl, by kernel_rfl, by kernel_rfl⟩
          · refine Wc.region [{}, {}, { r := some (.v (.bool l162_) []) }, { re := some (.bool true) }, {}, {}, {}, {}, { re := some (.bool false) }] [] [2] [] [] ⟨[(2, (.v (.bool false), []))], [], []⟩ _ (by kernel_rfl) (.cons (cspec_l01In h170) (.cons (congrArg AV.bool h171) (.cons (congrArg AV.bool h172) .nil))) ?_
            refine Wc.ret ?_
            obtain rfl := Option.some.inj h
            exact ⟨.inl rfl, by kernel_rfl, by kernel_rfl⟩
        · refine Wc.region [{}, {}, { r := some (.v (.bool l162_) []) }, { re := some (.bool false) }] [] [2] [] [] ⟨[(2, (.v (.bool false), []))], [], []⟩ _ (by kernel_rfl) (.cons (cspec_l01In h170) (.cons (congrArg AV.bool h171) .nil)) ?_
          refine Wc.ret ?_
          obtain rfl := Option.some.inj h
          exact ⟨.inl rfl, by kernel_rfl, by kernel_rfl⟩
      · refine Wc.condF h169 (by kernel_rfl) ?_
        refine Wc.seq ?_
        refine Wc.region [] [] [1, 53] [1] [] ⟨[(1, (.ptr 1 0, [])), (53, (.v (.bool (j159_.gKind == 4)), []))], [(1, .cells [.int .i64 j159_.gKind, .str j159_.gName, .int .i64 j159_.gNum, .sl (List.map GTerm.c j159_.gKids)] [])], []⟩ _ (by kernel_rfl) .nil ?_
        rcases oif h with ⟨h173, h⟩ | ⟨h173, h⟩
        · refine Wc.condT h173 (by kernel_rfl) ?_
          refine Wc.seq ?_
          obtain ⟨l163_, h174, h⟩ := obind h
          rcases oif h with ⟨h175, h⟩ | ⟨h175, h⟩
          · rcases oif h with ⟨h176, h⟩ | ⟨h176, h⟩
            · obtain ⟨l164_, h177, h⟩ := obind h
              refine Wc.region [{}, {}, { r := some (.v (.bool l163_) []) }, { re := some (.bool true) }, {}, {}, {}, {}, { re := some (.bool true) }, {}, {}, { v := some (.int .i64 (j159_.gKids.length : Int)) }, { r := some (.v (.bool l164_) []) }] [] [2] [] [] ⟨[(2, (.v (.bool l164_), []))], [], []⟩ _ (by kernel_rfl) (.cons (cspec_l03Name h174) (.cons (congrArg AV.bool h175) (.cons (congrArg AV.bool h176) (.cons (len_obl GTerm.c j159_.gKids) (.cons (cspec_l01In h177) .nil))))) ?_
              refine Wc.ret ?_
              obtain rfl := Option.some.inj h
              exact ⟨.inl rfl, by kernel_rfl, by kernel_rfl⟩
            · refine Wc.region [{}, {}, { r := some (.v (.bool l163_) []) }, { re := some (.bool true) }, {}, {}, {}, {}, { re := some (.bool false) }] [] [2] [] [] ⟨[(2, (.v (.bool false), []))], [], []⟩ _ (by kernel_rfl) (.cons (cspec_l03Name h174) (.cons (congrArg AV.bool h175) (.cons (congrArg AV.bool h176) .nil))) ?_
              refine Wc.ret ?_
              obtain rfl := Option.some.inj h
              exact ⟨.inl rfl, by kernel_rfl, by kernel_rfl⟩
          · refine Wc.region [{}, {}, { r := some (.v (.bool l163_) []) }, { re := some (.bool false) }] [] [2] [] [] ⟨[(2, (.v (.bool false), []))], [], []⟩ _ (by kernel_rfl) (.cons (cspec_l03Name h174) (.cons (congrArg AV.bool h175) .nil)) ?_
            refine Wc.ret ?_
            obtain rfl := Option.some.inj h
            exact ⟨.inl rfl, by kernel_rfl, by kernel_rfl⟩
        · refine Wc.condF h173 (by kernel_rfl) ?_
          refine Wc.fix (st' := ⟨[], [], []⟩) [] [] [] [] (by kernel_rfl) ?_
          refine Wc.skip ?_
          refine Wc.seq ?_
          refine Wc.region [] [] [2] [] [] ⟨[(2, (.v (.bool false), []))], [], []⟩ _ (by kernel_rfl) .nil ?_
          refine Wc.ret ?_
          obtain rfl := Option.some.inj h
          exact ⟨.inl rfl, by kernel_rfl, by kernel_rfl⟩

def pspec_l03Right_L1 (k : Nat) (rspec_l03Right : GTerm → Int → Option Bool) (j165_ : GTerm) (b166_ : Int) : Nat → Int → Option (Out Bool Unit)
  | 0, _ => none
  | m + 1, b168_ =>
    if (decide (b168_ < (j165_.gKids.length : Int))) = true then
      (at' j165_.gKids b168_).bind fun j169_ =>
      (rspec_l03Right j169_ (wr.i64 (b166_ + 1))).bind fun l170_ =>
      if (!l170_) = true then
        some (.ret false)
      else
        pspec_l03Right_L1 k rspec_l03Right j165_ b166_ m (wr.i64 (b168_ + 1))
    else
      some (.done ())
mutual
/-- spec.l03Right -/
def pspec_l03Right : Nat → GTerm → Int → Option Bool
  | 0, _, _ => none
  | k + 1, j165_, b166_ =>
    if (decide (b166_ > 40)) = true then
      some false
    else
      (pspec_l03One k j165_).bind fun l167_ =>
      if (!l167_) = true then
        some false
      else
        (pspec_l03Right_L1 k (pspec_l03Right k) j165_ b166_ k 0).bind fun out1 => match out1 with
        | .ret r => some r
        | .done () =>
          some true
end
theorem all_pspec_l03Right : ∀ k : Nat, (∀ {j165_ : GTerm} {b166_ : Int} {r : Bool}, pspec_l03Right k j165_ b166_ = some r → FnO Try.prog 120 [.v (.agg [.int .i64 j165_.gKind, .str j165_.gName, .int .i64 j165_.gNum, .sl (List.map GTerm.c j165_.gKids)]) [], .v (.int .i64 b166_) []] (.v (.bool r) []) []) := by
  intro k
  induction k with
  | zero =>
    · intro j165_ b166_ r h
      exact (onone (by rw [pspec_l03Right] at h; exact h)).elim
  | succ k ih =>
    have ih_pspec_l03Right := @ih
    · intro j165_ b166_ r h
      rw [pspec_l03Right] at h
      refine FnO.of Try.func120 (rfl : Try.f120.body = some _) (Nat.le_of_ble_eq_true (by kernel_rfl)) (Nat.le_of_ble_eq_true (by kernel_rfl)) ?_
      intro w0 X0 Fin pv0 pb
      refine Wc.seq ?_
      refine Wc.region [] [] [1, 2] [2] [] ⟨[(1, (.v (.int .i64 b166_), [])), (2, (.ptr 2 0, []))], [(2, .cells [.int .i64 j165_.gKind, .str j165_.gName, .int .i64 j165_.gNum, .sl (List.map GTerm.c j165_.gKids)] [])], []⟩ _ (by kernel_rfl) .nil ?_
      refine Wc.seq ?_
      refine Wc.seq ?_
      rcases oif h with ⟨h178, h⟩ | ⟨h178, h⟩
      · refine Wc.region [{}, {}, { re := some (.bool true) }] [] [1, 2, 12] [2] [] ⟨[(1, (.v (.int .i64 b166_), [])), (2, (.ptr 2 0, [])), (12, (.v (.bool true), []))], [(2, .cells [.int .i64 j165_.gKind, .str j165_.gName, .int .i64 j165_.gNum, .sl (List.map GTerm.c j165_.gKids)] [])], []⟩ _ (by kernel_rfl) (.cons (congrArg AV.bool h178) .nil) ?_
        refine Wc.condT rfl (by kernel_rfl) ?_
        refine Wc.seq ?_
        refine Wc.region [] [] [4] [] [] ⟨[(4, (.v (.bool false), []))], [], []⟩ _ (by kernel_rfl) .nil ?_
        refine Wc.ret ?_
        obtain rfl := Option.some.inj h
        exact ⟨.inl rfl, by kernel_rfl, by kernel_rfl⟩
      · obtain ⟨l167_, h179, h⟩ := obind h
        refine Wc.region [{}, {}, { re := some (.bool false) }, {}, { r := some (.v (.bool l167_) []) }] [] [1, 2, 12] [2] [] ⟨[(1, (.v (.int .i64 b166_), [])), (2, (.ptr 2 0, [])), (12, (.v (.bool (!l167_)), []))], [(2, .cells [.int .i64 j165_.gKind, .str j165_.gName, .int .i64 j165_.gNum, .sl (List.map GTerm.c j165_.gKids)] [])], []⟩ _ (by kernel_rfl) (.cons (congrArg AV.bool h178) (.cons (cspec_l03One h179) .nil)) ?_
        rcases oif h with ⟨h180, h⟩ | ⟨h180, h⟩
        · refine Wc.condT h180 (by kernel_rfl) ?_
          refine Wc.seq ?_
          refine Wc.region [] [] [4] [] [] ⟨[(4, (.v (.bool false), []))], [], []⟩ _ (by kernel_rfl) .nil ?_
          refine Wc.ret ?_
          obtain rfl := Option.some.inj h
          exact ⟨.inl rfl, by kernel_rfl, by kernel_rfl⟩
        · refine Wc.condF h180 (by kernel_rfl) ?_
          refine Wc.fix (st' := ⟨[(1, (.v (.int .i64 b166_), [])), (2, (.ptr 2 0, []))], [(2, .cells [.int .i64 j165_.gKind, .str j165_.gName, .int .i64 j165_.gNum, .sl (List.map GTerm.c j165_.gKids)] [])], []⟩) [] [1, 2] [2] [] (by kernel_rfl) ?_
          refine Wc.skip ?_
          refine Wc.seq ?_
          refine Wc.seq ?_
          refine Wc.region [] [] [1, 2, 5] [2] [] ⟨[(1, (.v (.int .i64 b166_), [])), (2, (.ptr 2 0, [])), (5, (.v (.int .i64 0), []))], [(2, .cells [.int .i64 j165_.gKind, .str j165_.gName, .int .i64 j165_.gNum, .sl (List.map GTerm.c j165_.gKids)] [])], []⟩ _ (by kernel_rfl) .nil ?_
          obtain ⟨out1, h181, h⟩ := obind h
          refine Wc.lastJ (fun st => out1 = .done () ∧ st = ⟨[], [], []⟩) ?_ ?_
          · refine Wc.block ?_
            refine Wc.loop (fun m st => ∃ (b168_ : Int), st = ⟨[(1, (.v (.int .i64 b166_), [])), (2, (.ptr 2 0, [])), (5, (.v (.int .i64 b168_), []))], [(2, .cells [.int .i64 j165_.gKind, .str j165_.gName, .int .i64 j165_.gNum, .sl (List.map GTerm.c j165_.gKids)] [])], []⟩ ∧ pspec_l03Right_L1 k (pspec_l03Right k) j165_ b166_ m b168_ = some out1) ?_ k ⟨_, rfl, h181⟩
            rintro m st ⟨b168_, rfl, h181⟩
            cases m with
            | zero => exact (onone h181).elim
            | succ m =>
              refine Wc.seq ?_
              refine Wc.seq ?_
              refine Wc.region [{}, {}, {}, { v := some (.int .i64 (j165_.gKids.length : Int)) }] [] [1, 2, 5, 17] [2] [] ⟨[(1, (.v (.int .i64 b166_), [])), (2, (.ptr 2 0, [])), (5, (.v (.int .i64 b168_), [])), (17, (.v (.bool (decide (b168_ < (j165_.gKids.length : Int)))), []))], [(2, .cells [.int .i64 j165_.gKind, .str j165_.gName, .int .i64 j165_.gNum, .sl (List.map GTerm.c j165_.gKids)] [])], []⟩ _ (by kernel_rfl) (.cons (len_obl GTerm.c j165_.gKids) .nil) ?_
              rcases oif h181 with ⟨h182, h181⟩ | ⟨h182, h181⟩
              · refine Wc.condT h182 (by kernel_rfl) ?_
                refine Wc.fix (st' := ⟨[(1, (.v (.int .i64 b166_), [])), (2, (.ptr 2 0, [])), (5, (.v (.int .i64 b168_), []))], [(2, .cells [.int .i64 j165_.gKind, .str j165_.gName, .int .i64 j165_.gNum, .sl (List.map GTerm.c j165_.gKids)] [])], []⟩) [] [1, 2, 5] [2] [] (by kernel_rfl) ?_
                refine Wc.skip ?_
                refine Wc.seq ?_
                refine Wc.block ?_
                refine Wc.seq ?_
                obtain ⟨j169_, h183, h181⟩ := obind h181
                obtain ⟨l170_, h184, h181⟩ := obind h181
                refine Wc.region [{}, {}, {}, { v := some (.vptr [.int .i64 j169_.gKind, .str j169_.gName, .int .i64 j169_.gNum, .sl (List.map GTerm.c j169_.gKids)]) }, {}, {}, {}, { r := some (.v (.bool l170_) []) }] [] [1, 2, 5, 28] [2] [] ⟨[(1, (.v (.int .i64 b166_), [])), (2, (.ptr 2 0, [])), (5, (.v (.int .i64 b168_), [])), (28, (.v (.bool (!l170_)), []))], [(2, .cells [.int .i64 j165_.gKind, .str j165_.gName, .int .i64 j165_.gNum, .sl (List.map GTerm.c j165_.gKids)] [])], []⟩ _ (by kernel_rfl) (.cons (at_obl (c := GTerm.c) (GTerm.c_eq j169_) GTerm.c_len h183) (.cons (len_ok 4 [.int .i64 j169_.gKind, .str j169_.gName, .int .i64 j169_.gNum, .sl (List.map GTerm.c j169_.gKids)]) (.cons (ih_pspec_l03Right h184) .nil))) ?_
                rcases oif h181 with ⟨h185, h181⟩ | ⟨h185, h181⟩
                · refine Wc.condT h185 (by kernel_rfl) ?_
                  refine Wc.seq ?_
                  refine Wc.region [] [] [4] [] [] ⟨[(4, (.v (.bool false), []))], [], []⟩ _ (by kernel_rfl) .nil ?_
                  refine Wc.ret ?_
                  obtain rfl := Option.some.inj h181
                  obtain rfl := Option.some.inj h
                  exact ⟨.inl rfl, by kernel_rfl, by kernel_rfl⟩
                · refine Wc.condF h185 (by kernel_rfl) ?_
                  refine Wc.fix (st' := ⟨[(1, (.v (.int .i64 b166_), [])), (2, (.ptr 2 0, [])), (5, (.v (.int .i64 b168_), []))], [(2, .cells [.int .i64 j165_.gKind, .str j165_.gName, .int .i64 j165_.gNum, .sl (List.map GTerm.c j165_.gKids)] [])], []⟩) [] [1, 2, 5] [2] [] (by kernel_rfl) ?_
                  refine Wc.skip ?_
                  refine Wc.region [] [] [1, 2, 5] [2] [] ⟨[(1, (.v (.int .i64 b166_), [])), (2, (.ptr 2 0, [])), (5, (.v (.int .i64 (wr.i64 (b168_ + 1))), []))], [(2, .cells [.int .i64 j165_.gKind, .str j165_.gName, .int .i64 j165_.gNum, .sl (List.map GTerm.c j165_.gKids)] [])], []⟩ _ (by kernel_rfl) .nil ?_
                  exact ⟨_, Nat.lt_succ_self _, _, rfl, h181⟩
              · refine Wc.condF h182 (by kernel_rfl) ?_
                refine Wc.fix (st' := ⟨[], [], []⟩) [] [] [] [] (by kernel_rfl) ?_
                refine Wc.exit ?_
                obtain rfl := Option.some.inj h181
                exact ⟨rfl, rfl⟩
          · rintro st ⟨rfl, rfl⟩
            refine Wc.seq ?_
            refine Wc.region [] [] [4] [] [] ⟨[(4, (.v (.bool true), []))], [], []⟩ _ (by kernel_rfl) .nil ?_
            refine Wc.ret ?_
            obtain rfl := Option.some.inj h
            exact ⟨.inl rfl, by kernel_rfl, by kernel_rfl⟩
theorem cspec_l03Right {k : Nat} {j165_ : GTerm} {b166_ : Int} {r : Bool} (h : pspec_l03Right k j165_ b166_ = some r) : FnO Try.prog 120 [.v (.agg [.int .i64 j165_.gKind, .str j165_.gName, .int .i64 j165_.gNum, .sl (List.map GTerm.c j165_.gKids)]) [], .v (.int .i64 b166_) []] (.v (.bool r) []) [] := (all_pspec_l03Right k) h

/-- spec.TermOk -/
def pspec_TermOk (k : Nat) (j171_ : GTerm) : Option Bool :=
  (pspec_l03Count k j171_ 400).bind fun b172_ =>
  if (decide (b172_ ≥ 0)) = true then
    (pspec_l03Right k j171_ 1).bind fun l173_ =>
    some l173_
  else
    some false
theorem cspec_TermOk {k : Nat} {j171_ : GTerm} {r : Bool} (h : pspec_TermOk k j171_ = some r) : FnO Try.prog 78 [.v (.agg [.int .i64 j171_.gKind, .str j171_.gName, .int .i64 j171_.gNum, .sl (List.map GTerm.c j171_.gKids)]) []] (.v (.bool r) []) [] := by
  refine FnO.of Try.func78 (rfl : Try.f78.body = some _) (Nat.le_of_ble_eq_true (by kernel_rfl)) (Nat.le_of_ble_eq_true (by kernel_rfl)) ?_
  intro w0 X0 Fin pv0 pb
  unfold pspec_TermOk at h
  refine Wc.seq ?_
  refine Wc.region [] [] [1] [1] [] ⟨[(1, (.ptr 1 0, []))], [(1, .cells [.int .i64 j171_.gKind, .str j171_.gName, .int .i64 j171_.gNum, .sl (List.map GTerm.c j171_.gKids)] [])], []⟩ _ (by kernel_rfl) .nil ?_
  refine Wc.seq ?_
  obtain ⟨b172_, h186, h⟩ := obind h
  rcases oif h with ⟨h187, h⟩ | ⟨h187, h⟩
  · obtain ⟨l173_, h188, h⟩ := obind h
    refine Wc.region [{}, { r := some (.v (.int .i64 b172_) []) }, {}, { re := some (.bool true) }, {}, { r := some (.v (.bool l173_) []) }] [] [2] [] [] ⟨[(2, (.v (.bool l173_), []))], [], []⟩ _ (by kernel_rfl) (.cons (cspec_l03Count h186) (.cons (congrArg AV.bool h187) (.cons (cspec_l03Right h188) .nil))) ?_
    refine Wc.ret ?_
    obtain rfl := Option.some.inj h
    exact ⟨.inl rfl, by kernel_rfl, by kernel_rfl⟩
  · refine Wc.region [{}, { r := some (.v (.int .i64 b172_) []) }, {}, { re := some (.bool false) }] [] [2] [] [] ⟨[(2, (.v (.bool false), []))], [], []⟩ _ (by kernel_rfl) (.cons (cspec_l03Count h186) (.cons (congrArg AV.bool h187) .nil)) ?_
    refine Wc.ret ?_
    obtain rfl := Option.some.inj h
    exact ⟨.inl rfl, by kernel_rfl, by kernel_rfl⟩

def pspec_l13Heap_name_L1 (k : Nat) (b175_ : Int) : Nat → GL13Heap → Option (Out GL13Heap GL13Heap)
  | 0, _ => none
  | m + 1, q177_ =>
    if (decide ((q177_.gRefs.length : Int) ≤ b175_)) = true then
      if q177_.gRefs.length + [-1].length ≤ 1073741824 then
        pspec_l13Heap_name_L1 k b175_ m (GL13Heap.mk q177_.gCells q177_.gTrail (q177_.gRefs ++ [-1]) q177_.gPairs)
      else none
    else
      some (.done q177_)
/-- (*spec.l13Heap).name -/
def pspec_l13Heap_name (k : Nat) (q174_ : GL13Heap) (b175_ : Int) (b176_ : Int) : Option GL13Heap :=
  (pspec_l13Heap_name_L1 k b175_ k q174_).bind fun out1 => match out1 with
  | .ret r => some r
  | .done q178_ =>
    (at' q178_.gRefs b175_).bind fun b179_ =>
    if (decide (b179_ < 0)) = true then
      (at' q178_.gRefs b175_).bind fun b180_ =>
      some (GL13Heap.mk q178_.gCells q178_.gTrail (q178_.gRefs.set ((b175_).toNat) b176_) q178_.gPairs)
    else
      some q178_
theorem cspec_l13Heap_name {k : Nat} {q174_ : GL13Heap} {b175_ : Int} {b176_ : Int} {r : GL13Heap} (h : pspec_l13Heap_name k q174_ b175_ b176_ = some r) : FnO Try.prog 147 [.p [.slx, .slx, .slx, .int .i64 q174_.gPairs] [(0, .ex 139 false (List.map GCell.c q174_.gCells)), (1, .ex 3 false (List.map cI.i64 q174_.gTrail)), (2, .ex 3 false (List.map cI.i64 q174_.gRefs))], .v (.int .i64 b175_) [], .v (.int .i64 b176_) []] (.v (.tup []) []) [(0, .p [.slx, .slx, .slx, .int .i64 r.gPairs] [(0, .ex 139 false (List.map GCell.c r.gCells)), (1, .ex 3 false (List.map cI.i64 r.gTrail)), (2, .ex 3 false (List.map cI.i64 r.gRefs))])] := by
  refine FnO.of Try.func147 (rfl : Try.f147.body = some _) (Nat.le_of_ble_eq_true (by kernel_rfl)) (Nat.le_of_ble_eq_true (by kernel_rfl)) ?_
  intro w0 X0 Fin pv0 pb
  unfold pspec_l13Heap_name at h
  obtain ⟨out1, h189, h⟩ := obind h
  refine Wc.seqJ (fun st => ∃ (q178_ : GL13Heap), out1 = .done q178_ ∧ st = ⟨[(0, (.ptr 1000000 0, [])), (1, (.v (.int .i64 b175_), [])), (2, (.v (.int .i64 b176_), []))], [(1000000, .cells [.slx, .slx, .slx, .int .i64 q178_.gPairs] [(0, .ex 139 false (List.map GCell.c q178_.gCells)), (1, .ex 3 false (List.map cI.i64 q178_.gTrail)), (2, .ex 3 false (List.map cI.i64 q178_.gRefs))])], []⟩) ?_ ?_
  · refine Wc.block ?_
    refine Wc.loop (fun m st => ∃ (q177_ : GL13Heap), st = ⟨[(0, (.ptr 1000000 0, [])), (1, (.v (.int .i64 b175_), [])), (2, (.v (.int .i64 b176_), []))], [(1000000, .cells [.slx, .slx, .slx, .int .i64 q177_.gPairs] [(0, .ex 139 false (List.map GCell.c q177_.gCells)), (1, .ex 3 false (List.map cI.i64 q177_.gTrail)), (2, .ex 3 false (List.map cI.i64 q177_.gRefs))])], []⟩ ∧ pspec_l13Heap_name_L1 k b175_ m q177_ = some out1) ?_ k ⟨_, rfl, h189⟩
    rintro m st ⟨q177_, rfl, h189⟩
    cases m with
    | zero => exact (onone h189).elim
    | succ m =>
      refine Wc.seq ?_
      refine Wc.seq ?_
      refine Wc.region [{}, {}, {}, {}, { v := some (.int .i64 (q177_.gRefs.length : Int)) }] [] [0, 1, 2, 12] [1000000] [] ⟨[(0, (.ptr 1000000 0, [])), (1, (.v (.int .i64 b175_), [])), (2, (.v (.int .i64 b176_), [])), (12, (.v (.bool (decide ((q177_.gRefs.length : Int) ≤ b175_))), []))], [(1000000, .cells [.slx, .slx, .slx, .int .i64 q177_.gPairs] [(0, .ex 139 false (List.map GCell.c q177_.gCells)), (1, .ex 3 false (List.map cI.i64 q177_.gTrail)), (2, .ex 3 false (List.map cI.i64 q177_.gRefs))])], []⟩ _ (by kernel_rfl) (.cons (len_obl cI.i64 q177_.gRefs) .nil) ?_
      rcases oif h189 with ⟨h190, h189⟩ | ⟨h190, h189⟩
      · refine Wc.condT h190 (by kernel_rfl) ?_
        refine Wc.fix (st' := ⟨[(0, (.ptr 1000000 0, [])), (1, (.v (.int .i64 b175_), [])), (2, (.v (.int .i64 b176_), []))], [(1000000, .cells [.slx, .slx, .slx, .int .i64 q177_.gPairs] [(0, .ex 139 false (List.map GCell.c q177_.gCells)), (1, .ex 3 false (List.map cI.i64 q177_.gTrail)), (2, .ex 3 false (List.map cI.i64 q177_.gRefs))])], []⟩) [] [0, 1, 2] [1000000] [] (by kernel_rfl) ?_
        refine Wc.skip ?_
        refine Wc.block ?_
        obtain ⟨h191, h189⟩ := oguard h189
        refine Wc.region [{}, {}, {}, {}, { md := 1 }, { c := some (List.map cI.i64 [-1]) }, { c := some (List.map cI.i64 (q177_.gRefs ++ [-1])), tk := [17], md := 1 }, {}, {}, { tk := [19] }] [] [0, 1, 2] [1000000] [] ⟨[(0, (.ptr 1000000 0, [])), (1, (.v (.int .i64 b175_), [])), (2, (.v (.int .i64 b176_), []))], [(1000000, .cells [.slx, .slx, .slx, .int .i64 q177_.gPairs] [(0, .ex 139 false (List.map GCell.c q177_.gCells)), (1, .ex 3 false (List.map cI.i64 q177_.gTrail)), (2, .ex 3 false (List.map cI.i64 (q177_.gRefs ++ [-1])))])], []⟩ _ (by kernel_rfl) (.cons (cl_cons (c := cI.i64) (x := -1) rfl (cl_nil cI.i64)) (.cons (app_re2 cI.i64 q177_.gRefs [-1]) (.cons (app_leaf (c := cI.i64) (ys := [-1]) cI.i64_leaf) (.cons (app_obl2 (c := cI.i64) (xs := q177_.gRefs) (ys := [-1]) cI.i64_len h191) .nil)))) ?_
        exact ⟨_, Nat.lt_succ_self _, _, rfl, h189⟩
      · refine Wc.condF h190 (by kernel_rfl) ?_
        refine Wc.fix (st' := ⟨[(0, (.ptr 1000000 0, [])), (1, (.v (.int .i64 b175_), [])), (2, (.v (.int .i64 b176_), []))], [(1000000, .cells [.slx, .slx, .slx, .int .i64 q177_.gPairs] [(0, .ex 139 false (List.map GCell.c q177_.gCells)), (1, .ex 3 false (List.map cI.i64 q177_.gTrail)), (2, .ex 3 false (List.map cI.i64 q177_.gRefs))])], []⟩) [] [0, 1, 2] [1000000] [] (by kernel_rfl) ?_
        refine Wc.exit ?_
        obtain rfl := Option.some.inj h189
        exact ⟨_, rfl, rfl⟩
  · rintro st ⟨q178_, rfl, rfl⟩
    refine Wc.seq ?_
    obtain ⟨b179_, h192, h⟩ := obind h
    refine Wc.region [{}, {}, {}, {}, {}, {}, { v := some (.int .i64 b179_) }] [] [0, 1, 2, 29] [1000000] [] ⟨[(0, (.ptr 1000000 0, [])), (1, (.v (.int .i64 b175_), [])), (2, (.v (.int .i64 b176_), [])), (29, (.v (.bool (decide (b179_ < 0))), []))], [(1000000, .cells [.slx, .slx, .slx, .int .i64 q178_.gPairs] [(0, .ex 139 false (List.map GCell.c q178_.gCells)), (1, .ex 3 false (List.map cI.i64 q178_.gTrail)), (2, .ex 3 false (List.map cI.i64 q178_.gRefs))])], []⟩ _ (by kernel_rfl) (.cons (ix_obl (c := cI.i64) cI.i64_len h192) (.cons (el_obl (sz := 1) (off := 0) (s := 1) (ag := false) (v := .int .i64 b179_) (c := cI.i64) rfl (at'_spec h192).2 rfl (Nat.le_of_ble_eq_true rfl) rfl) .nil)) ?_
    rcases oif h with ⟨h193, h⟩ | ⟨h193, h⟩
    · refine Wc.condT h193 (by kernel_rfl) ?_
      obtain ⟨b180_, h194, h⟩ := obind h
      refine Wc.region [{}, {}, {}, {}, {}, {}, {}, { c := some (List.map cI.i64 (q178_.gRefs.set ((b175_).toNat) b176_)) }] [] [] [1000000] [] ⟨[], [(1000000, .cells [.slx, .slx, .slx, .int .i64 q178_.gPairs] [(0, .ex 139 false (List.map GCell.c q178_.gCells)), (1, .ex 3 false (List.map cI.i64 q178_.gTrail)), (2, .ex 3 false (List.map cI.i64 (q178_.gRefs.set ((b175_).toNat) b176_)))])], []⟩ _ (by kernel_rfl) (.cons (ix_obl (c := cI.i64) cI.i64_len h194) (.cons (mod_obl (off := 0) (new := [.int .i64 b176_]) (c := cI.i64) rfl rfl (at'_spec h194).2 rfl) (.cons (st_obl (sz := 1) (off := 0) (s := 1) (c := cI.i64) rfl (at'_spec h194).2 rfl (Nat.le_of_ble_eq_true rfl)) .nil))) ?_
      obtain rfl := Option.some.inj h
      exact ⟨(by first | exact .inl rfl | exact .inr rfl), by kernel_rfl, by kernel_rfl⟩
    · refine Wc.condF h193 (by kernel_rfl) ?_
      refine Wc.fix (st' := ⟨[], [(1000000, .cells [.slx, .slx, .slx, .int .i64 q178_.gPairs] [(0, .ex 139 false (List.map GCell.c q178_.gCells)), (1, .ex 3 false (List.map cI.i64 q178_.gTrail)), (2, .ex 3 false (List.map cI.i64 q178_.gRefs))])], []⟩) [] [] [1000000] [] (by kernel_rfl) ?_
      refine Wc.skip ?_
      obtain rfl := Option.some.inj h
      exact ⟨(by first | exact .inl rfl | exact .inr rfl), by kernel_rfl, by kernel_rfl⟩
end Go.Proofs.Ytgfpmdaihkdhkaa

/- What the functions do, part 1. -/
import Derived.Test.YtgfpmdaihkdhkaaTy
set_option linter.unusedVariables false
set_option linter.unusedSimpArgs false
namespace Go.Proofs.Ytgfpmdaihkdhkaa
open Go.RowKit Go.Bv
/-- laws.szIntS -/
def plaws_szIntS (k : Nat) (a1_ : List Int) (b2_ : Int) : Option Int :=
  if (decide ((wr.i64 (b2_ - (a1_.length : Int))) < 0)) = true then
    some (-1)
  else
    some (wr.i64 (b2_ - (a1_.length : Int)))
theorem claws_szIntS {k : Nat} {a1_ : List Int} {b2_ : Int} {r : Int} (h : plaws_szIntS k a1_ b2_ = some r) : FnO Try.prog 64 [.v (.sl (List.map cI.i64 a1_)) [], .v (.int .i64 b2_) []] (.v (.int .i64 r) []) [] := by
  refine FnO.of Try.func64 (rfl : Try.f64.body = some _) (Nat.le_of_ble_eq_true (by kernel_rfl)) (Nat.le_of_ble_eq_true (by kernel_rfl)) ?_
  intro w0 X0 Fin pv0 pb
  unfold plaws_szIntS at h
  refine Wc.seq ?_
  refine Wc.region [] [] [0, 1] [] [] ⟨[(0, (.v (.sl (List.map cI.i64 a1_)), [])), (1, (.v (.int .i64 b2_), []))], [], []⟩ _ (by kernel_rfl) .nil ?_
  refine Wc.seq ?_
  refine Wc.region [{}, {}, { v := some (.int .i64 (a1_.length : Int)) }] [] [1] [] [] ⟨[(1, (.v (.int .i64 (wr.i64 (b2_ - (a1_.length : Int)))), []))], [], []⟩ _ (by kernel_rfl) (.cons (len_obl cI.i64 a1_) .nil) ?_
  refine Wc.seq ?_
  refine Wc.seq ?_
  refine Wc.region [] [] [1, 10] [] [] ⟨[(1, (.v (.int .i64 (wr.i64 (b2_ - (a1_.length : Int)))), [])), (10, (.v (.bool (decide ((wr.i64 (b2_ - (a1_.length : Int))) < 0))), []))], [], []⟩ _ (by kernel_rfl) .nil ?_
  rcases oif h with ⟨h1, h⟩ | ⟨h1, h⟩
  · refine Wc.condT h1 (by kernel_rfl) ?_
    refine Wc.seq ?_
    refine Wc.region [] [] [4] [] [] ⟨[(4, (.v (.int .i64 (-1)), []))], [], []⟩ _ (by kernel_rfl) .nil ?_
    refine Wc.ret ?_
    obtain rfl := Option.some.inj h
    exact ⟨.inl rfl, by kernel_rfl, by kernel_rfl⟩
  · refine Wc.condF h1 (by kernel_rfl) ?_
    refine Wc.fix (st' := ⟨[(1, (.v (.int .i64 (wr.i64 (b2_ - (a1_.length : Int)))), []))], [], []⟩) [] [1] [] [] (by kernel_rfl) ?_
    refine Wc.skip ?_
    refine Wc.seq ?_
    refine Wc.region [] [] [4] [] [] ⟨[(4, (.v (.int .i64 (wr.i64 (b2_ - (a1_.length : Int)))), []))], [], []⟩ _ (by kernel_rfl) .nil ?_
    refine Wc.ret ?_
    obtain rfl := Option.some.inj h
    exact ⟨.inl rfl, by kernel_rfl, by kernel_rfl⟩

/-- laws.szCell -/
def plaws_szCell (k : Nat) (c3_ : GCell) (b4_ : Int) : Option Int :=
  if (decide ((wr.i64 (b4_ - (c3_.gName.size : Int))) < 0)) = true then
    some (-1)
  else
    (plaws_szIntS k c3_.gKids (wr.i64 (b4_ - (c3_.gName.size : Int)))).bind fun b5_ =>
    if (decide (b5_ < 0)) = true then
      some (-1)
    else
      some b5_
theorem claws_szCell {k : Nat} {c3_ : GCell} {b4_ : Int} {r : Int} (h : plaws_szCell k c3_ b4_ = some r) : FnO Try.prog 109 [.v (.agg [.int .i64 c3_.gKind, .str c3_.gName, .int .i64 c3_.gNum, .int .i64 c3_.gTo, .sl (List.map cI.i64 c3_.gKids)]) [], .v (.int .i64 b4_) []] (.v (.int .i64 r) []) [] := by
  refine FnO.of Try.func109 (rfl : Try.f109.body = some _) (Nat.le_of_ble_eq_true (by kernel_rfl)) (Nat.le_of_ble_eq_true (by kernel_rfl)) ?_
  intro w0 X0 Fin pv0 pb
  unfold plaws_szCell at h
  refine Wc.seq ?_
  refine Wc.region [] [] [1, 2] [2] [] ⟨[(1, (.v (.int .i64 b4_), [])), (2, (.ptr 2 0, []))], [(2, .cells [.int .i64 c3_.gKind, .str c3_.gName, .int .i64 c3_.gNum, .int .i64 c3_.gTo, .sl (List.map cI.i64 c3_.gKids)] [])], []⟩ _ (by kernel_rfl) .nil ?_
  refine Wc.seq ?_
  refine Wc.region [] [] [1, 2] [2] [] ⟨[(1, (.v (.int .i64 (wr.i64 (b4_ - (c3_.gName.size : Int)))), [])), (2, (.ptr 2 0, []))], [(2, .cells [.int .i64 c3_.gKind, .str c3_.gName, .int .i64 c3_.gNum, .int .i64 c3_.gTo, .sl (List.map cI.i64 c3_.gKids)] [])], []⟩ _ (by kernel_rfl) .nil ?_
  refine Wc.seq ?_
  refine Wc.seq ?_
  refine Wc.region [] [] [1, 2, 11] [2] [] ⟨[(1, (.v (.int .i64 (wr.i64 (b4_ - (c3_.gName.size : Int)))), [])), (2, (.ptr 2 0, [])), (11, (.v (.bool (decide ((wr.i64 (b4_ - (c3_.gName.size : Int))) < 0))), []))], [(2, .cells [.int .i64 c3_.gKind, .str c3_.gName, .int .i64 c3_.gNum, .int .i64 c3_.gTo, .sl (List.map cI.i64 c3_.gKids)] [])], []⟩ _ (by kernel_rfl) .nil ?_
  rcases oif h with ⟨h2, h⟩ | ⟨h2, h⟩
  · refine Wc.condT h2 (by kernel_rfl) ?_
    refine Wc.seq ?_
    refine Wc.region [] [] [4] [] [] ⟨[(4, (.v (.int .i64 (-1)), []))], [], []⟩ _ (by kernel_rfl) .nil ?_
    refine Wc.ret ?_
    obtain rfl := Option.some.inj h
    exact ⟨.inl rfl, by kernel_rfl, by kernel_rfl⟩
  · refine Wc.condF h2 (by kernel_rfl) ?_
    refine Wc.fix (st' := ⟨[(1, (.v (.int .i64 (wr.i64 (b4_ - (c3_.gName.size : Int)))), [])), (2, (.ptr 2 0, []))], [(2, .cells [.int .i64 c3_.gKind, .str c3_.gName, .int .i64 c3_.gNum, .int .i64 c3_.gTo, .sl (List.map cI.i64 c3_.gKids)] [])], []⟩) [] [1, 2] [2] [] (by kernel_rfl) ?_
    refine Wc.skip ?_
    refine Wc.seq ?_
    obtain ⟨b5_, h3, h⟩ := obind h
    refine Wc.region [{}, {}, {}, { r := some (.v (.int .i64 b5_) []) }] [] [1] [] [] ⟨[(1, (.v (.int .i64 b5_), []))], [], []⟩ _ (by kernel_rfl) (.cons (claws_szIntS h3) .nil) ?_
    refine Wc.seq ?_
    refine Wc.seq ?_
    refine Wc.region [] [] [1, 17] [] [] ⟨[(1, (.v (.int .i64 b5_), [])), (17, (.v (.bool (decide (b5_ < 0))), []))], [], []⟩ _ (by kernel_rfl) .nil ?_
    rcases oif h with ⟨h4, h⟩ | ⟨h4, h⟩
    · refine Wc.condT h4 (by kernel_rfl) ?_
      refine Wc.seq ?_
      refine Wc.region [] [] [4] [] [] ⟨[(4, (.v (.int .i64 (-1)), []))], [], []⟩ _ (by kernel_rfl) .nil ?_
      refine Wc.ret ?_
      obtain rfl := Option.some.inj h
      exact ⟨.inl rfl, by kernel_rfl, by kernel_rfl⟩
    · refine Wc.condF h4 (by kernel_rfl) ?_
      refine Wc.fix (st' := ⟨[(1, (.v (.int .i64 b5_), []))], [], []⟩) [] [1] [] [] (by kernel_rfl) ?_
      refine Wc.skip ?_
      refine Wc.seq ?_
      refine Wc.region [] [] [4] [] [] ⟨[(4, (.v (.int .i64 b5_), []))], [], []⟩ _ (by kernel_rfl) .nil ?_
      refine Wc.ret ?_
      obtain rfl := Option.some.inj h
      exact ⟨.inl rfl, by kernel_rfl, by kernel_rfl⟩

def plaws_szCellS_L1 (k : Nat) (d6_ : List GCell) : Nat → Int → Int → Option (Out Int Int)
  | 0, _, _ => none
  | m + 1, b8_, b9_ =>
    if (decide (b9_ < (d6_.length : Int))) = true then
      (at' d6_ b9_).bind fun c11_ =>
      (plaws_szCell k c11_ b8_).bind fun b12_ =>
      if (decide (b12_ < 0)) = true then
        some (.ret (-1))
      else
        plaws_szCellS_L1 k d6_ m b12_ (wr.i64 (b9_ + 1))
    else
      some (.done b8_)
/-- laws.szCellS -/
def plaws_szCellS (k : Nat) (d6_ : List GCell) (b7_ : Int) : Option Int :=
  if (decide ((wr.i64 (b7_ - (d6_.length : Int))) < 0)) = true then
    some (-1)
  else
    (plaws_szCellS_L1 k d6_ k (wr.i64 (b7_ - (d6_.length : Int))) 0).bind fun out1 => match out1 with
    | .ret r => some r
    | .done b10_ =>
      some b10_
theorem claws_szCellS {k : Nat} {d6_ : List GCell} {b7_ : Int} {r : Int} (h : plaws_szCellS k d6_ b7_ = some r) : FnO Try.prog 63 [.v (.sl (List.map GCell.c d6_)) [], .v (.int .i64 b7_) []] (.v (.int .i64 r) []) [] := by
  refine FnO.of Try.func63 (rfl : Try.f63.body = some _) (Nat.le_of_ble_eq_true (by kernel_rfl)) (Nat.le_of_ble_eq_true (by kernel_rfl)) ?_
  intro w0 X0 Fin pv0 pb
  unfold plaws_szCellS at h
  refine Wc.seq ?_
  refine Wc.region [] [] [0, 1] [] [] ⟨[(0, (.v (.sl (List.map GCell.c d6_)), [])), (1, (.v (.int .i64 b7_), []))], [], []⟩ _ (by kernel_rfl) .nil ?_
  refine Wc.seq ?_
  refine Wc.region [{}, {}, { v := some (.int .i64 (d6_.length : Int)) }] [] [0, 1] [] [] ⟨[(0, (.v (.sl (List.map GCell.c d6_)), [])), (1, (.v (.int .i64 (wr.i64 (b7_ - (d6_.length : Int)))), []))], [], []⟩ _ (by kernel_rfl) (.cons (len_obl GCell.c d6_) .nil) ?_
  refine Wc.seq ?_
  refine Wc.seq ?_
  refine Wc.region [] [] [0, 1, 11] [] [] ⟨[(0, (.v (.sl (List.map GCell.c d6_)), [])), (1, (.v (.int .i64 (wr.i64 (b7_ - (d6_.length : Int)))), [])), (11, (.v (.bool (decide ((wr.i64 (b7_ - (d6_.length : Int))) < 0))), []))], [], []⟩ _ (by kernel_rfl) .nil ?_
  rcases oif h with ⟨h5, h⟩ | ⟨h5, h⟩
  · refine Wc.condT h5 (by kernel_rfl) ?_
    refine Wc.seq ?_
    refine Wc.region [] [] [4] [] [] ⟨[(4, (.v (.int .i64 (-1)), []))], [], []⟩ _ (by kernel_rfl) .nil ?_
    refine Wc.ret ?_
    obtain rfl := Option.some.inj h
    exact ⟨.inl rfl, by kernel_rfl, by kernel_rfl⟩
  · refine Wc.condF h5 (by kernel_rfl) ?_
    refine Wc.fix (st' := ⟨[(0, (.v (.sl (List.map GCell.c d6_)), [])), (1, (.v (.int .i64 (wr.i64 (b7_ - (d6_.length : Int)))), []))], [], []⟩) [] [0, 1] [] [] (by kernel_rfl) ?_
    refine Wc.skip ?_
    refine Wc.seq ?_
    refine Wc.seq ?_
    refine Wc.region [] [] [0, 1, 5] [] [] ⟨[(0, (.v (.sl (List.map GCell.c d6_)), [])), (1, (.v (.int .i64 (wr.i64 (b7_ - (d6_.length : Int)))), [])), (5, (.v (.int .i64 0), []))], [], []⟩ _ (by kernel_rfl) .nil ?_
    obtain ⟨out1, h6, h⟩ := obind h
    refine Wc.lastJ (fun st => ∃ (b10_ : Int), out1 = .done b10_ ∧ st = ⟨[(1, (.v (.int .i64 b10_), []))], [], []⟩) ?_ ?_
    · refine Wc.block ?_
      refine Wc.loop (fun m st => ∃ (b8_ : Int) (b9_ : Int), st = ⟨[(0, (.v (.sl (List.map GCell.c d6_)), [])), (1, (.v (.int .i64 b8_), [])), (5, (.v (.int .i64 b9_), []))], [], []⟩ ∧ plaws_szCellS_L1 k d6_ m b8_ b9_ = some out1) ?_ k ⟨_, _, rfl, h6⟩
      rintro m st ⟨b8_, b9_, rfl, h6⟩
      cases m with
      | zero => exact (onone h6).elim
      | succ m =>
        refine Wc.seq ?_
        refine Wc.seq ?_
        refine Wc.region [{}, {}, { v := some (.int .i64 (d6_.length : Int)) }] [] [0, 1, 5, 15] [] [] ⟨[(0, (.v (.sl (List.map GCell.c d6_)), [])), (1, (.v (.int .i64 b8_), [])), (5, (.v (.int .i64 b9_), [])), (15, (.v (.bool (decide (b9_ < (d6_.length : Int)))), []))], [], []⟩ _ (by kernel_rfl) (.cons (len_obl GCell.c d6_) .nil) ?_
        rcases oif h6 with ⟨h7, h6⟩ | ⟨h7, h6⟩
        · refine Wc.condT h7 (by kernel_rfl) ?_
          refine Wc.fix (st' := ⟨[(0, (.v (.sl (List.map GCell.c d6_)), [])), (1, (.v (.int .i64 b8_), [])), (5, (.v (.int .i64 b9_), []))], [], []⟩) [] [0, 1, 5] [] [] (by kernel_rfl) ?_
          refine Wc.skip ?_
          refine Wc.seq ?_
          refine Wc.block ?_
          refine Wc.seq ?_
          obtain ⟨c11_, h8, h6⟩ := obind h6
          obtain ⟨b12_, h9, h6⟩ := obind h6
          refine Wc.region [{}, {}, { v := some (.vptr [.int .i64 c11_.gKind, .str c11_.gName, .int .i64 c11_.gNum, .int .i64 c11_.gTo, .sl (List.map cI.i64 c11_.gKids)]) }, {}, {}, { r := some (.v (.int .i64 b12_) []) }] [] [0, 1, 5] [] [] ⟨[(0, (.v (.sl (List.map GCell.c d6_)), [])), (1, (.v (.int .i64 b12_), [])), (5, (.v (.int .i64 b9_), []))], [], []⟩ _ (by kernel_rfl) (.cons (at_obl (c := GCell.c) (GCell.c_eq c11_) GCell.c_len h8) (.cons (len_ok 5 [.int .i64 c11_.gKind, .str c11_.gName, .int .i64 c11_.gNum, .int .i64 c11_.gTo, .sl (List.map cI.i64 c11_.gKids)]) (.cons (claws_szCell h9) .nil))) ?_
          refine Wc.seq ?_
          refine Wc.region [] [] [0, 1, 5, 25] [] [] ⟨[(0, (.v (.sl (List.map GCell.c d6_)), [])), (1, (.v (.int .i64 b12_), [])), (5, (.v (.int .i64 b9_), [])), (25, (.v (.bool (decide (b12_ < 0))), []))], [], []⟩ _ (by kernel_rfl) .nil ?_
          rcases oif h6 with ⟨h10, h6⟩ | ⟨h10, h6⟩
          · refine Wc.condT h10 (by kernel_rfl) ?_
            refine Wc.seq ?_
            refine Wc.region [] [] [4] [] [] ⟨[(4, (.v (.int .i64 (-1)), []))], [], []⟩ _ (by kernel_rfl) .nil ?_
            refine Wc.ret ?_
            obtain rfl := Option.some.inj h6
            obtain rfl := Option.some.inj h
            exact ⟨.inl rfl, by kernel_rfl, by kernel_rfl⟩
          · refine Wc.condF h10 (by kernel_rfl) ?_
            refine Wc.fix (st' := ⟨[(0, (.v (.sl (List.map GCell.c d6_)), [])), (1, (.v (.int .i64 b12_), [])), (5, (.v (.int .i64 b9_), []))], [], []⟩) [] [0, 1, 5] [] [] (by kernel_rfl) ?_
            refine Wc.skip ?_
            refine Wc.region [] [] [0, 1, 5] [] [] ⟨[(0, (.v (.sl (List.map GCell.c d6_)), [])), (1, (.v (.int .i64 b12_), [])), (5, (.v (.int .i64 (wr.i64 (b9_ + 1))), []))], [], []⟩ _ (by kernel_rfl) .nil ?_
            exact ⟨_, Nat.lt_succ_self _, _, _, rfl, h6⟩
        · refine Wc.condF h7 (by kernel_rfl) ?_
          refine Wc.fix (st' := ⟨[(1, (.v (.int .i64 b8_), []))], [], []⟩) [] [1] [] [] (by kernel_rfl) ?_
          refine Wc.exit ?_
          obtain rfl := Option.some.inj h6
          exact ⟨_, rfl, rfl⟩
    · rintro st ⟨b10_, rfl, rfl⟩
      refine Wc.seq ?_
      refine Wc.region [] [] [4] [] [] ⟨[(4, (.v (.int .i64 b10_), []))], [], []⟩ _ (by kernel_rfl) .nil ?_
      refine Wc.ret ?_
      obtain rfl := Option.some.inj h
      exact ⟨.inl rfl, by kernel_rfl, by kernel_rfl⟩

/-- laws.szHeap -/
def plaws_szHeap (k : Nat) (e13_ : GHeap) (b14_ : Int) : Option Int :=
  (plaws_szCellS k e13_.gCells b14_).bind fun b15_ =>
  if (decide (b15_ < 0)) = true then
    some (-1)
  else
    (plaws_szIntS k e13_.gTrail b15_).bind fun b16_ =>
    if (decide (b16_ < 0)) = true then
      some (-1)
    else
      some b16_
theorem claws_szHeap {k : Nat} {e13_ : GHeap} {b14_ : Int} {r : Int} (h : plaws_szHeap k e13_ b14_ = some r) : FnO Try.prog 16 [.v (.agg [.sl (List.map GCell.c e13_.gCells), .sl (List.map cI.i64 e13_.gTrail)]) [], .v (.int .i64 b14_) []] (.v (.int .i64 r) []) [] := by
  refine FnO.of Try.func16 (rfl : Try.f16.body = some _) (Nat.le_of_ble_eq_true (by kernel_rfl)) (Nat.le_of_ble_eq_true (by kernel_rfl)) ?_
  intro w0 X0 Fin pv0 pb
  unfold plaws_szHeap at h
  refine Wc.seq ?_
  refine Wc.region [] [] [1, 2] [2] [] ⟨[(1, (.v (.int .i64 b14_), [])), (2, (.ptr 2 0, []))], [(2, .cells [.sl (List.map GCell.c e13_.gCells), .sl (List.map cI.i64 e13_.gTrail)] [])], []⟩ _ (by kernel_rfl) .nil ?_
  refine Wc.seq ?_
  obtain ⟨b15_, h11, h⟩ := obind h
  refine Wc.region [{}, {}, {}, { r := some (.v (.int .i64 b15_) []) }] [] [1, 2] [2] [] ⟨[(1, (.v (.int .i64 b15_), [])), (2, (.ptr 2 0, []))], [(2, .cells [.sl (List.map GCell.c e13_.gCells), .sl (List.map cI.i64 e13_.gTrail)] [])], []⟩ _ (by kernel_rfl) (.cons (claws_szCellS h11) .nil) ?_
  refine Wc.seq ?_
  refine Wc.seq ?_
  refine Wc.region [] [] [1, 2, 10] [2] [] ⟨[(1, (.v (.int .i64 b15_), [])), (2, (.ptr 2 0, [])), (10, (.v (.bool (decide (b15_ < 0))), []))], [(2, .cells [.sl (List.map GCell.c e13_.gCells), .sl (List.map cI.i64 e13_.gTrail)] [])], []⟩ _ (by kernel_rfl) .nil ?_
  rcases oif h with ⟨h12, h⟩ | ⟨h12, h⟩
  · refine Wc.condT h12 (by kernel_rfl) ?_
    refine Wc.seq ?_
    refine Wc.region [] [] [4] [] [] ⟨[(4, (.v (.int .i64 (-1)), []))], [], []⟩ _ (by kernel_rfl) .nil ?_
    refine Wc.ret ?_
    obtain rfl := Option.some.inj h
    exact ⟨.inl rfl, by kernel_rfl, by kernel_rfl⟩
  · refine Wc.condF h12 (by kernel_rfl) ?_
    refine Wc.fix (st' := ⟨[(1, (.v (.int .i64 b15_), [])), (2, (.ptr 2 0, []))], [(2, .cells [.sl (List.map GCell.c e13_.gCells), .sl (List.map cI.i64 e13_.gTrail)] [])], []⟩) [] [1, 2] [2] [] (by kernel_rfl) ?_
    refine Wc.skip ?_
    refine Wc.seq ?_
    obtain ⟨b16_, h13, h⟩ := obind h
    refine Wc.region [{}, {}, {}, { r := some (.v (.int .i64 b16_) []) }] [] [1] [] [] ⟨[(1, (.v (.int .i64 b16_), []))], [], []⟩ _ (by kernel_rfl) (.cons (claws_szIntS h13) .nil) ?_
    refine Wc.seq ?_
    refine Wc.seq ?_
    refine Wc.region [] [] [1, 16] [] [] ⟨[(1, (.v (.int .i64 b16_), [])), (16, (.v (.bool (decide (b16_ < 0))), []))], [], []⟩ _ (by kernel_rfl) .nil ?_
    rcases oif h with ⟨h14, h⟩ | ⟨h14, h⟩
    · refine Wc.condT h14 (by kernel_rfl) ?_
      refine Wc.seq ?_
      refine Wc.region [] [] [4] [] [] ⟨[(4, (.v (.int .i64 (-1)), []))], [], []⟩ _ (by kernel_rfl) .nil ?_
      refine Wc.ret ?_
      obtain rfl := Option.some.inj h
      exact ⟨.inl rfl, by kernel_rfl, by kernel_rfl⟩
    · refine Wc.condF h14 (by kernel_rfl) ?_
      refine Wc.fix (st' := ⟨[(1, (.v (.int .i64 b16_), []))], [], []⟩) [] [1] [] [] (by kernel_rfl) ?_
      refine Wc.skip ?_
      refine Wc.seq ?_
      refine Wc.region [] [] [4] [] [] ⟨[(4, (.v (.int .i64 b16_), []))], [], []⟩ _ (by kernel_rfl) .nil ?_
      refine Wc.ret ?_
      obtain rfl := Option.some.inj h
      exact ⟨.inl rfl, by kernel_rfl, by kernel_rfl⟩

/-- spec.l01In -/
def pspec_l01In (k : Nat) (b17_ : Int) (b18_ : Int) (b19_ : Int) : Option Bool :=
  if (decide (b17_ ≥ b18_)) = true then
    some (decide (b17_ ≤ b19_))
  else
    some false
theorem cspec_l01In {k : Nat} {b17_ : Int} {b18_ : Int} {b19_ : Int} {r : Bool} (h : pspec_l01In k b17_ b18_ b19_ = some r) : FnO Try.prog 110 [.v (.int .i64 b17_) [], .v (.int .i64 b18_) [], .v (.int .i64 b19_) []] (.v (.bool r) []) [] := by
  refine FnO.of Try.func110 (rfl : Try.f110.body = some _) (Nat.le_of_ble_eq_true (by kernel_rfl)) (Nat.le_of_ble_eq_true (by kernel_rfl)) ?_
  intro w0 X0 Fin pv0 pb
  unfold pspec_l01In at h
  refine Wc.seq ?_
  refine Wc.region [] [] [0, 1, 2] [] [] ⟨[(0, (.v (.int .i64 b17_), [])), (1, (.v (.int .i64 b18_), [])), (2, (.v (.int .i64 b19_), []))], [], []⟩ _ (by kernel_rfl) .nil ?_
  refine Wc.seq ?_
  rcases oif h with ⟨h15, h⟩ | ⟨h15, h⟩
  · refine Wc.region [{}, {}, {}, { re := some (.bool true) }] [] [6] [] [] ⟨[(6, (.v (.bool (decide (b17_ ≤ b19_))), []))], [], []⟩ _ (by kernel_rfl) (.cons (congrArg AV.bool h15) .nil) ?_
    refine Wc.ret ?_
    obtain rfl := Option.some.inj h
    exact ⟨.inl rfl, by kernel_rfl, by kernel_rfl⟩
  · refine Wc.region [{}, {}, {}, { re := some (.bool false) }] [] [6] [] [] ⟨[(6, (.v (.bool false), []))], [], []⟩ _ (by kernel_rfl) (.cons (congrArg AV.bool h15) .nil) ?_
    refine Wc.ret ?_
    obtain rfl := Option.some.inj h
    exact ⟨.inl rfl, by kernel_rfl, by kernel_rfl⟩

def pspec_l13Follow_L1 (k : Nat) (d20_ : List GCell) : Nat → Int → Int → Option (Out Int Unit)
  | 0, _, _ => none
  | m + 1, b22_, b23_ =>
    if (decide (b23_ ≤ (d20_.length : Int))) = true then
      (pspec_l01In k b22_ 0 (wr.i64 ((d20_.length : Int) - 1))).bind fun f24_ =>
      if (!f24_) = true then
        some (.ret (-1))
      else
        (at' d20_ b22_).bind fun c25_ =>
        if (c25_.gKind != 1) = true then
          some (.ret b22_)
        else
          (at' d20_ b22_).bind fun c26_ =>
          if (decide (c26_.gTo < 0)) = true then
            some (.ret b22_)
          else
            (at' d20_ b22_).bind fun c27_ =>
            pspec_l13Follow_L1 k d20_ m c27_.gTo (wr.i64 (b23_ + 1))
    else
      some (.done ())
/-- spec.l13Follow -/
def pspec_l13Follow (k : Nat) (d20_ : List GCell) (b21_ : Int) : Option Int :=
  (pspec_l13Follow_L1 k d20_ k b21_ 0).bind fun out1 => match out1 with
  | .ret r => some r
  | .done () =>
    some (-1)
theorem cspec_l13Follow {k : Nat} {d20_ : List GCell} {b21_ : Int} {r : Int} (h : pspec_l13Follow k d20_ b21_ = some r) : FnO Try.prog 140 [.v (.sl (List.map GCell.c d20_)) [], .v (.int .i64 b21_) []] (.v (.int .i64 r) []) [] := by
  refine FnO.of Try.func140 (rfl : Try.f140.body = some _) (Nat.le_of_ble_eq_true (by kernel_rfl)) (Nat.le_of_ble_eq_true (by kernel_rfl)) ?_
  intro w0 X0 Fin pv0 pb
  unfold pspec_l13Follow at h
  refine Wc.seq ?_
  refine Wc.region [] [] [0, 1] [] [] ⟨[(0, (.v (.sl (List.map GCell.c d20_)), [])), (1, (.v (.int .i64 b21_), []))], [], []⟩ _ (by kernel_rfl) .nil ?_
  refine Wc.seq ?_
  refine Wc.seq ?_
  refine Wc.region [] [] [0, 1, 5] [] [] ⟨[(0, (.v (.sl (List.map GCell.c d20_)), [])), (1, (.v (.int .i64 b21_), [])), (5, (.v (.int .i64 0), []))], [], []⟩ _ (by kernel_rfl) .nil ?_
  obtain ⟨out1, h16, h⟩ := obind h
  refine Wc.lastJ (fun st => out1 = .done () ∧ st = ⟨[], [], []⟩) ?_ ?_
  · refine Wc.block ?_
    refine Wc.loop (fun m st => ∃ (b22_ : Int) (b23_ : Int), st = ⟨[(0, (.v (.sl (List.map GCell.c d20_)), [])), (1, (.v (.int .i64 b22_), [])), (5, (.v (.int .i64 b23_), []))], [], []⟩ ∧ pspec_l13Follow_L1 k d20_ m b22_ b23_ = some out1) ?_ k ⟨_, _, rfl, h16⟩
    rintro m st ⟨b22_, b23_, rfl, h16⟩
    cases m with
    | zero => exact (onone h16).elim
    | succ m =>
      refine Wc.seq ?_
      refine Wc.seq ?_
      refine Wc.region [{}, {}, { v := some (.int .i64 (d20_.length : Int)) }] [] [0, 1, 5, 9] [] [] ⟨[(0, (.v (.sl (List.map GCell.c d20_)), [])), (1, (.v (.int .i64 b22_), [])), (5, (.v (.int .i64 b23_), [])), (9, (.v (.bool (decide (b23_ ≤ (d20_.length : Int)))), []))], [], []⟩ _ (by kernel_rfl) (.cons (len_obl GCell.c d20_) .nil) ?_
      rcases oif h16 with ⟨h17, h16⟩ | ⟨h17, h16⟩
      · refine Wc.condT h17 (by kernel_rfl) ?_
        refine Wc.fix (st' := ⟨[(0, (.v (.sl (List.map GCell.c d20_)), [])), (1, (.v (.int .i64 b22_), [])), (5, (.v (.int .i64 b23_), []))], [], []⟩) [] [0, 1, 5] [] [] (by kernel_rfl) ?_
        refine Wc.skip ?_
        refine Wc.seq ?_
        refine Wc.block ?_
        refine Wc.seq ?_
        refine Wc.seq ?_
        obtain ⟨f24_, h18, h16⟩ := obind h16
        refine Wc.region [{}, {}, { v := some (.int .i64 (d20_.length : Int)) }, {}, { r := some (.v (.bool f24_) []) }] [] [0, 1, 5, 17] [] [] ⟨[(0, (.v (.sl (List.map GCell.c d20_)), [])), (1, (.v (.int .i64 b22_), [])), (5, (.v (.int .i64 b23_), [])), (17, (.v (.bool (!f24_)), []))], [], []⟩ _ (by kernel_rfl) (.cons (len_obl GCell.c d20_) (.cons (cspec_l01In h18) .nil)) ?_
        rcases oif h16 with ⟨h19, h16⟩ | ⟨h19, h16⟩
        · refine Wc.condT h19 (by kernel_rfl) ?_
          refine Wc.seq ?_
          refine Wc.region [] [] [4] [] [] ⟨[(4, (.v (.int .i64 (-1)), []))], [], []⟩ _ (by kernel_rfl) .nil ?_
          refine Wc.ret ?_
          obtain rfl := Option.some.inj h16
          obtain rfl := Option.some.inj h
          exact ⟨.inl rfl, by kernel_rfl, by kernel_rfl⟩
        · refine Wc.condF h19 (by kernel_rfl) ?_
          refine Wc.fix (st' := ⟨[(0, (.v (.sl (List.map GCell.c d20_)), [])), (1, (.v (.int .i64 b22_), [])), (5, (.v (.int .i64 b23_), []))], [], []⟩) [] [0, 1, 5] [] [] (by kernel_rfl) ?_
          refine Wc.skip ?_
          refine Wc.seq ?_
          refine Wc.seq ?_
          obtain ⟨c25_, h20, h16⟩ := obind h16
          rcases oif h16 with ⟨h21, h16⟩ | ⟨h21, h16⟩
          · refine Wc.region [{}, {}, { v := some (.vptr [.int .i64 c25_.gKind, .str c25_.gName, .int .i64 c25_.gNum, .int .i64 c25_.gTo, .sl (List.map cI.i64 c25_.gKids)]) }, {}, {}, {}, { re := some (.bool true) }] [] [0, 1, 5, 31] [] [] ⟨[(0, (.v (.sl (List.map GCell.c d20_)), [])), (1, (.v (.int .i64 b22_), [])), (5, (.v (.int .i64 b23_), [])), (31, (.v (.bool true), []))], [], []⟩ _ (by kernel_rfl) (.cons (at_obl (c := GCell.c) (GCell.c_eq c25_) GCell.c_len h20) (.cons (len_ok 1 [.int .i64 c25_.gKind, .str c25_.gName, .int .i64 c25_.gNum, .int .i64 c25_.gTo, .sl (List.map cI.i64 c25_.gKids)]) (.cons (congrArg AV.bool h21) .nil))) ?_
            refine Wc.condT rfl (by kernel_rfl) ?_
            refine Wc.seq ?_
            refine Wc.region [] [] [4] [] [] ⟨[(4, (.v (.int .i64 b22_), []))], [], []⟩ _ (by kernel_rfl) .nil ?_
            refine Wc.ret ?_
            obtain rfl := Option.some.inj h16
            obtain rfl := Option.some.inj h
            exact ⟨.inl rfl, by kernel_rfl, by kernel_rfl⟩
          · obtain ⟨c26_, h22, h16⟩ := obind h16
            refine Wc.region [{}, {}, { v := some (.vptr [.int .i64 c25_.gKind, .str c25_.gName, .int .i64 c25_.gNum, .int .i64 c25_.gTo, .sl (List.map cI.i64 c25_.gKids)]) }, {}, {}, {}, { re := some (.bool false) }, {}, {}, { v := some (.vptr [.int .i64 c26_.gKind, .str c26_.gName, .int .i64 c26_.gNum, .int .i64 c26_.gTo, .sl (List.map cI.i64 c26_.gKids)]) }] [] [0, 1, 5, 31] [] [] ⟨[(0, (.v (.sl (List.map GCell.c d20_)), [])), (1, (.v (.int .i64 b22_), [])), (5, (.v (.int .i64 b23_), [])), (31, (.v (.bool (decide (c26_.gTo < 0))), []))], [], []⟩ _ (by kernel_rfl) (.cons (at_obl (c := GCell.c) (GCell.c_eq c25_) GCell.c_len h20) (.cons (len_ok 1 [.int .i64 c25_.gKind, .str c25_.gName, .int .i64 c25_.gNum, .int .i64 c25_.gTo, .sl (List.map cI.i64 c25_.gKids)]) (.cons (congrArg AV.bool h21) (.cons (at_obl (c := GCell.c) (GCell.c_eq c26_) GCell.c_len h22) (.cons (len_ok 1 [.int .i64 c26_.gTo, .sl (List.map cI.i64 c26_.gKids)]) .nil))))) ?_
            rcases oif h16 with ⟨h23, h16⟩ | ⟨h23, h16⟩
            · refine Wc.condT h23 (by kernel_rfl) ?_
              refine Wc.seq ?_
              refine Wc.region [] [] [4] [] [] ⟨[(4, (.v (.int .i64 b22_), []))], [], []⟩ _ (by kernel_rfl) .nil ?_
              refine Wc.ret ?_
              obtain rfl := Option.some.inj h16
              obtain rfl := Option.some.inj h
              exact ⟨.inl rfl, by kernel_rfl, by kernel_rfl⟩
            · refine Wc.condF h23 (by kernel_rfl) ?_
              refine Wc.fix (st' := ⟨[(0, (.v (.sl (List.map GCell.c d20_)), [])), (1, (.v (.int .i64 b22_), [])), (5, (.v (.int .i64 b23_), []))], [], []⟩) [] [0, 1, 5] [] [] (by kernel_rfl) ?_
              refine Wc.skip ?_
              obtain ⟨c27_, h24, h16⟩ := obind h16
              refine Wc.region [{}, {}, { v := some (.vptr [.int .i64 c27_.gKind, .str c27_.gName, .int .i64 c27_.gNum, .int .i64 c27_.gTo, .sl (List.map cI.i64 c27_.gKids)]) }] [] [0, 1, 5] [] [] ⟨[(0, (.v (.sl (List.map GCell.c d20_)), [])), (1, (.v (.int .i64 c27_.gTo), [])), (5, (.v (.int .i64 b23_), []))], [], []⟩ _ (by kernel_rfl) (.cons (at_obl (c := GCell.c) (GCell.c_eq c27_) GCell.c_len h24) (.cons (len_ok 1 [.int .i64 c27_.gTo, .sl (List.map cI.i64 c27_.gKids)]) .nil)) ?_
              refine Wc.region [] [] [0, 1, 5] [] [] ⟨[(0, (.v (.sl (List.map GCell.c d20_)), [])), (1, (.v (.int .i64 c27_.gTo), [])), (5, (.v (.int .i64 (wr.i64 (b23_ + 1))), []))], [], []⟩ _ (by kernel_rfl) .nil ?_
              exact ⟨_, Nat.lt_succ_self _, _, _, rfl, h16⟩
      · refine Wc.condF h17 (by kernel_rfl) ?_
        refine Wc.fix (st' := ⟨[], [], []⟩) [] [] [] [] (by kernel_rfl) ?_
        refine Wc.exit ?_
        obtain rfl := Option.some.inj h16
        exact ⟨rfl, rfl⟩
  · rintro st ⟨rfl, rfl⟩
    refine Wc.seq ?_
    refine Wc.region [] [] [4] [] [] ⟨[(4, (.v (.int .i64 (-1)), []))], [], []⟩ _ (by kernel_rfl) .nil ?_
    refine Wc.ret ?_
    obtain rfl := Option.some.inj h
    exact ⟨.inl rfl, by kernel_rfl, by kernel_rfl⟩

/-- spec.FollowCell -/
def pspec_FollowCell (k : Nat) (e28_ : GHeap) (b29_ : Int) : Option Int :=
  (pspec_l13Follow k e28_.gCells b29_).bind fun b30_ =>
  some b30_
theorem cspec_FollowCell {k : Nat} {e28_ : GHeap} {b29_ : Int} {r : Int} (h : pspec_FollowCell k e28_ b29_ = some r) : FnO Try.prog 111 [.v (.agg [.sl (List.map GCell.c e28_.gCells), .sl (List.map cI.i64 e28_.gTrail)]) [], .v (.int .i64 b29_) []] (.v (.int .i64 r) []) [] := by
  refine FnO.of Try.func111 (rfl : Try.f111.body = some _) (Nat.le_of_ble_eq_true (by kernel_rfl)) (Nat.le_of_ble_eq_true (by kernel_rfl)) ?_
  intro w0 X0 Fin pv0 pb
  unfold pspec_FollowCell at h
  refine Wc.seq ?_
  refine Wc.region [] [] [1, 2] [2] [] ⟨[(1, (.v (.int .i64 b29_), [])), (2, (.ptr 2 0, []))], [(2, .cells [.sl (List.map GCell.c e28_.gCells), .sl (List.map cI.i64 e28_.gTrail)] [])], []⟩ _ (by kernel_rfl) .nil ?_
  refine Wc.seq ?_
  obtain ⟨b30_, h25, h⟩ := obind h
  refine Wc.region [{}, {}, {}, { r := some (.v (.int .i64 b30_) []) }] [] [4] [] [] ⟨[(4, (.v (.int .i64 b30_), []))], [], []⟩ _ (by kernel_rfl) (.cons (cspec_l13Follow h25) .nil) ?_
  refine Wc.ret ?_
  obtain rfl := Option.some.inj h
  exact ⟨.inl rfl, by kernel_rfl, by kernel_rfl⟩

def pspec_HeapOk_L3 (k : Nat) (c33_ : GCell) (e31_ : GHeap) : Nat → Int → Option (Out Bool Unit)
  | 0, _ => none
  | m + 1, b34_ =>
    if (decide (b34_ < (c33_.gKids.length : Int))) = true then
      (at' c33_.gKids b34_).bind fun b35_ =>
      (pspec_l01In k b35_ 0 (wr.i64 ((e31_.gCells.length : Int) - 1))).bind fun f36_ =>
      if (!f36_) = true then
        some (.ret false)
      else
        pspec_HeapOk_L3 k c33_ e31_ m (wr.i64 (b34_ + 1))
    else
      some (.done ())
def pspec_HeapOk_L4 (k : Nat) (b32_ : Int) (c33_ : GCell) (e31_ : GHeap) : Nat → Int → Option (Out Bool Unit)
  | 0, _ => none
  | m + 1, b37_ =>
    if (decide (b37_ < b32_)) = true then
      if (c33_.gKind == 1) = true then
        (at' e31_.gCells b37_).bind fun c38_ =>
        if (c38_.gKind == 1) = true then
          (at' e31_.gCells b37_).bind fun c39_ =>
          if (c39_.gNum == c33_.gNum) = true then
            some (.ret false)
          else
            pspec_HeapOk_L4 k b32_ c33_ e31_ m (wr.i64 (b37_ + 1))
        else
          pspec_HeapOk_L4 k b32_ c33_ e31_ m (wr.i64 (b37_ + 1))
      else
        some (.done ())
    else
      some (.done ())
def pspec_HeapOk_J2 (k : Nat) (bk_ : Int → Option (Out Bool Unit)) (c33_ : GCell) (e31_ : GHeap) (b32_ : Int) : Option (Out Bool Unit) :=
  (pspec_HeapOk_L3 k c33_ e31_ k 0).bind fun out3 => match out3 with
  | .ret r => some (.ret r)
  | .done () =>
    (pspec_HeapOk_L4 k b32_ c33_ e31_ k 0).bind fun out4 => match out4 with
    | .ret r => some (.ret r)
    | .done () =>
      bk_ (wr.i64 (b32_ + 1))
def pspec_HeapOk_L1 (k : Nat) (e31_ : GHeap) : Nat → Int → Option (Out Bool Unit)
  | 0, _ => none
  | m + 1, b32_ =>
    if (decide (b32_ < (e31_.gCells.length : Int))) = true then
      (at' e31_.gCells b32_).bind fun c33_ =>
      (pspec_l01In k c33_.gKind 1 4).bind fun f40_ =>
      if (!f40_) = true then
        some (.ret false)
      else
        if (c33_.gKind == 1) = true then
          (pspec_l01In k c33_.gTo (-1) (wr.i64 ((e31_.gCells.length : Int) - 1))).bind fun f41_ =>
          if (!f41_) = true then
            some (.ret false)
          else
            (pspec_FollowCell k e31_ b32_).bind fun b42_ =>
            if (decide (b42_ < 0)) = true then
              some (.ret false)
            else
              pspec_HeapOk_J2 k (pspec_HeapOk_L1 k e31_ m) c33_ e31_ b32_
        else
          pspec_HeapOk_J2 k (pspec_HeapOk_L1 k e31_ m) c33_ e31_ b32_
    else
      some (.done ())
def pspec_HeapOk_L5 (k : Nat) (e31_ : GHeap) : Nat → Int → Option (Out Bool Unit)
  | 0, _ => none
  | m + 1, b43_ =>
    if (decide (b43_ < (e31_.gTrail.length : Int))) = true then
      (at' e31_.gTrail b43_).bind fun b44_ =>
      (pspec_l01In k b44_ 0 (wr.i64 ((e31_.gCells.length : Int) - 1))).bind fun f45_ =>
      if (!f45_) = true then
        some (.ret false)
      else
        (at' e31_.gTrail b43_).bind fun b46_ =>
        (at' e31_.gCells b46_).bind fun c47_ =>
        if (c47_.gKind != 1) = true then
          some (.ret false)
        else
          pspec_HeapOk_L5 k e31_ m (wr.i64 (b43_ + 1))
    else
      some (.done ())
/-- spec.HeapOk -/
def pspec_HeapOk (k : Nat) (e31_ : GHeap) : Option Bool :=
  if (decide ((e31_.gCells.length : Int) > 60000)) = true then
    some false
  else
    (pspec_HeapOk_L1 k e31_ k 0).bind fun out1 => match out1 with
    | .ret r => some r
    | .done () =>
      (pspec_HeapOk_L5 k e31_ k 0).bind fun out5 => match out5 with
      | .ret r => some r
      | .done () =>
        some true
set_option maxHeartbeats 4000000 in
theorem cspec_HeapOk {k : Nat} {e31_ : GHeap} {r : Bool} (h : pspec_HeapOk k e31_ = some r) : FnO Try.prog 65 [.v (.agg [.sl (List.map GCell.c e31_.gCells), .sl (List.map cI.i64 e31_.gTrail)]) []] (.v (.bool r) []) [] := by
  refine FnO.of Try.func65 (rfl : Try.f65.body = some _) (Nat.le_of_ble_eq_true (by kernel_rfl)) (Nat.le_of_ble_eq_true (by kernel_rfl)) ?_
  intro w0 X0 Fin pv0 pb
  unfold pspec_HeapOk at h
  refine Wc.seq ?_
  refine Wc.region [] [] [1] [1] [] ⟨[(1, (.ptr 1 0, []))], [(1, .cells [.sl (List.map GCell.c e31_.gCells), .sl (List.map cI.i64 e31_.gTrail)] [])], []⟩ _ (by kernel_rfl) .nil ?_
  refine Wc.seq ?_
  refine Wc.region [{}, {}, { v := some (.int .i64 (e31_.gCells.length : Int)) }] [] [1, 3] [1] [] ⟨[(1, (.ptr 1 0, [])), (3, (.v (.int .i64 (e31_.gCells.length : Int)), []))], [(1, .cells [.sl (List.map GCell.c e31_.gCells), .sl (List.map cI.i64 e31_.gTrail)] [])], []⟩ _ (by kernel_rfl) (.cons (len_obl GCell.c e31_.gCells) .nil) ?_
  refine Wc.seq ?_
  refine Wc.seq ?_
  refine Wc.region [] [] [1, 3, 13] [1] [] ⟨[(1, (.ptr 1 0, [])), (3, (.v (.int .i64 (e31_.gCells.length : Int)), [])), (13, (.v (.bool (decide ((e31_.gCells.length : Int) > 60000))), []))], [(1, .cells [.sl (List.map GCell.c e31_.gCells), .sl (List.map cI.i64 e31_.gTrail)] [])], []⟩ _ (by kernel_rfl) .nil ?_
  rcases oif h with ⟨h26, h⟩ | ⟨h26, h⟩
  · refine Wc.condT h26 (by kernel_rfl) ?_
    refine Wc.seq ?_
    refine Wc.region [] [] [2] [] [] ⟨[(2, (.v (.bool false), []))], [], []⟩ _ (by kernel_rfl) .nil ?_
    refine Wc.ret ?_
    obtain rfl := Option.some.inj h
    exact ⟨.inl rfl, by kernel_rfl, by kernel_rfl⟩
  · refine Wc.condF h26 (by kernel_rfl) ?_
    refine Wc.fix (st' := ⟨[(1, (.ptr 1 0, [])), (3, (.v (.int .i64 (e31_.gCells.length : Int)), []))], [(1, .cells [.sl (List.map GCell.c e31_.gCells), .sl (List.map cI.i64 e31_.gTrail)] [])], []⟩) [] [1, 3] [1] [] (by kernel_rfl) ?_
    refine Wc.skip ?_
    refine Wc.seq ?_
    refine Wc.seq ?_
    refine Wc.region [] [] [1, 3, 4] [1] [] ⟨[(1, (.ptr 1 0, [])), (3, (.v (.int .i64 (e31_.gCells.length : Int)), [])), (4, (.v (.int .i64 0), []))], [(1, .cells [.sl (List.map GCell.c e31_.gCells), .sl (List.map cI.i64 e31_.gTrail)] [])], []⟩ _ (by kernel_rfl) .nil ?_
    obtain ⟨out1, h27, h⟩ := obind h
    refine Wc.lastJ (fun st => out1 = .done () ∧ st = ⟨[(1, (.ptr 1 0, [])), (3, (.v (.int .i64 (e31_.gCells.length : Int)), []))], [(1, .cells [.sl (List.map GCell.c e31_.gCells), .sl (List.map cI.i64 e31_.gTrail)] [])], []⟩) ?_ ?_
    · refine Wc.block ?_
      refine Wc.loop (fun m st => ∃ (b32_ : Int), st = ⟨[(1, (.ptr 1 0, [])), (3, (.v (.int .i64 (e31_.gCells.length : Int)), [])), (4, (.v (.int .i64 b32_), []))], [(1, .cells [.sl (List.map GCell.c e31_.gCells), .sl (List.map cI.i64 e31_.gTrail)] [])], []⟩ ∧ pspec_HeapOk_L1 k e31_ m b32_ = some out1) ?_ k ⟨_, rfl, h27⟩
      rintro m st ⟨b32_, rfl, h27⟩
      cases m with
      | zero => exact (onone h27).elim
      | succ m =>
        refine Wc.seq ?_
        refine Wc.seq ?_
        refine Wc.region [] [] [1, 3, 4, 16] [1] [] ⟨[(1, (.ptr 1 0, [])), (3, (.v (.int .i64 (e31_.gCells.length : Int)), [])), (4, (.v (.int .i64 b32_), [])), (16, (.v (.bool (decide (b32_ < (e31_.gCells.length : Int)))), []))], [(1, .cells [.sl (List.map GCell.c e31_.gCells), .sl (List.map cI.i64 e31_.gTrail)] [])], []⟩ _ (by kernel_rfl) .nil ?_
        rcases oif h27 with ⟨h28, h27⟩ | ⟨h28, h27⟩
        · refine Wc.condT h28 (by kernel_rfl) ?_
          refine Wc.fix (st' := ⟨[(1, (.ptr 1 0, [])), (3, (.v (.int .i64 (e31_.gCells.length : Int)), [])), (4, (.v (.int .i64 b32_), []))], [(1, .cells [.sl (List.map GCell.c e31_.gCells), .sl (List.map cI.i64 e31_.gTrail)] [])], []⟩) [] [1, 3, 4] [1] [] (by kernel_rfl) ?_
          refine Wc.skip ?_
          refine Wc.seq ?_
          refine Wc.block ?_
          refine Wc.seq ?_
          obtain ⟨c33_, h29, h27⟩ := obind h27
          refine Wc.region [{}, {}, {}, { v := some (.vptr [.int .i64 c33_.gKind, .str c33_.gName, .int .i64 c33_.gNum, .int .i64 c33_.gTo, .sl (List.map cI.i64 c33_.gKids)]) }] [] [1, 3, 4, 5] [1, 5] [] ⟨[(1, (.ptr 1 0, [])), (3, (.v (.int .i64 (e31_.gCells.length : Int)), [])), (4, (.v (.int .i64 b32_), [])), (5, (.ptr 5 0, []))], [(1, .cells [.sl (List.map GCell.c e31_.gCells), .sl (List.map cI.i64 e31_.gTrail)] []), (5, .cells [.int .i64 c33_.gKind, .str c33_.gName, .int .i64 c33_.gNum, .int .i64 c33_.gTo, .sl (List.map cI.i64 c33_.gKids)] [])], []⟩ _ (by kernel_rfl) (.cons (at_obl (c := GCell.c) (GCell.c_eq c33_) GCell.c_len h29) (.cons (len_ok 5 [.int .i64 c33_.gKind, .str c33_.gName, .int .i64 c33_.gNum, .int .i64 c33_.gTo, .sl (List.map cI.i64 c33_.gKids)]) .nil)) ?_
          refine Wc.seqJ (fun st => st = ⟨[(1, (.ptr 1 0, [])), (3, (.v (.int .i64 (e31_.gCells.length : Int)), [])), (4, (.v (.int .i64 b32_), [])), (5, (.ptr 5 0, []))], [(1, .cells [.sl (List.map GCell.c e31_.gCells), .sl (List.map cI.i64 e31_.gTrail)] []), (5, .cells [.int .i64 c33_.gKind, .str c33_.gName, .int .i64 c33_.gNum, .int .i64 c33_.gTo, .sl (List.map cI.i64 c33_.gKids)] [])], []⟩ ∧ pspec_HeapOk_J2 k (pspec_HeapOk_L1 k e31_ m) c33_ e31_ b32_ = some out1) ?_ ?_
          · refine Wc.seq ?_
            obtain ⟨f40_, h42, h27⟩ := obind h27
            rcases oif h27 with ⟨h43, h27⟩ | ⟨h43, h27⟩
            · refine Wc.region [{}, {}, { r := some (.v (.bool f40_) []) }, {}, { re := some (.bool true) }] [] [1, 3, 4, 5, 46] [1, 5] [] ⟨[(1, (.ptr 1 0, [])), (3, (.v (.int .i64 (e31_.gCells.length : Int)), [])), (4, (.v (.int .i64 b32_), [])), (5, (.ptr 5 0, [])), (46, (.v (.bool true), []))], [(1, .cells [.sl (List.map GCell.c e31_.gCells), .sl (List.map cI.i64 e31_.gTrail)] []), (5, .cells [.int .i64 c33_.gKind, .str c33_.gName, .int .i64 c33_.gNum, .int .i64 c33_.gTo, .sl (List.map cI.i64 c33_.gKids)] [])], []⟩ _ (by kernel_rfl) (.cons (cspec_l01In h42) (.cons (congrArg AV.bool h43) .nil)) ?_
              refine Wc.condT rfl (by kernel_rfl) ?_
              refine Wc.seq ?_
              refine Wc.region [] [] [2] [] [] ⟨[(2, (.v (.bool false), []))], [], []⟩ _ (by kernel_rfl) .nil ?_
              refine Wc.ret ?_
              obtain rfl := Option.some.inj h27
              obtain rfl := Option.some.inj h
              exact ⟨.inl rfl, by kernel_rfl, by kernel_rfl⟩
            · rcases oif h27 with ⟨h44, h27⟩ | ⟨h44, h27⟩
              · obtain ⟨f41_, h45, h27⟩ := obind h27
                rcases oif h27 with ⟨h46, h27⟩ | ⟨h46, h27⟩
                · refine Wc.region [{}, {}, { r := some (.v (.bool f40_) []) }, {}, { re := some (.bool false) }, {}, {}, {}, { re := some (.bool true) }, {}, {}, {}, {}, { r := some (.v (.bool f41_) []) }, {}, { re := some (.bool true) }] [] [1, 3, 4, 5, 46] [1, 5] [] ⟨[(1, (.ptr 1 0, [])), (3, (.v (.int .i64 (e31_.gCells.length : Int)), [])), (4, (.v (.int .i64 b32_), [])), (5, (.ptr 5 0, [])), (46, (.v (.bool true), []))], [(1, .cells [.sl (List.map GCell.c e31_.gCells), .sl (List.map cI.i64 e31_.gTrail)] []), (5, .cells [.int .i64 c33_.gKind, .str c33_.gName, .int .i64 c33_.gNum, .int .i64 c33_.gTo, .sl (List.map cI.i64 c33_.gKids)] [])], []⟩ _ (by kernel_rfl) (.cons (cspec_l01In h42) (.cons (congrArg AV.bool h43) (.cons (congrArg AV.bool h44) (.cons (cspec_l01In h45) (.cons (congrArg AV.bool h46) .nil))))) ?_
                  refine Wc.condT rfl (by kernel_rfl) ?_
                  refine Wc.seq ?_
                  refine Wc.region [] [] [2] [] [] ⟨[(2, (.v (.bool false), []))], [], []⟩ _ (by kernel_rfl) .nil ?_
                  refine Wc.ret ?_
                  obtain rfl := Option.some.inj h27
                  obtain rfl := Option.some.inj h
                  exact ⟨.inl rfl, by kernel_rfl, by kernel_rfl⟩
                · obtain ⟨b42_, h47, h27⟩ := obind h27
                  refine Wc.region [{}, {}, { r := some (.v (.bool f40_) []) }, {}, { re := some (.bool false) }, {}, {}, {}, { re := some (.bool true) }, {}, {}, {}, {}, { r := some (.v (.bool f41_) []) }, {}, { re := some (.bool false) }, {}, {}, { r := some (.v (.int .i64 b42_) []) }] [] [1, 3, 4, 5, 46] [1, 5] [] ⟨[(1, (.ptr 1 0, [])), (3, (.v (.int .i64 (e31_.gCells.length : Int)), [])), (4, (.v (.int .i64 b32_), [])), (5, (.ptr 5 0, [])), (46, (.v (.bool (decide (b42_ < 0))), []))], [(1, .cells [.sl (List.map GCell.c e31_.gCells), .sl (List.map cI.i64 e31_.gTrail)] []), (5, .cells [.int .i64 c33_.gKind, .str c33_.gName, .int .i64 c33_.gNum, .int .i64 c33_.gTo, .sl (List.map cI.i64 c33_.gKids)] [])], []⟩ _ (by kernel_rfl) (.cons (cspec_l01In h42) (.cons (congrArg AV.bool h43) (.cons (congrArg AV.bool h44) (.cons (cspec_l01In h45) (.cons (congrArg AV.bool h46) (.cons (cspec_FollowCell h47) .nil)))))) ?_
                  rcases oif h27 with ⟨h48, h27⟩ | ⟨h48, h27⟩
                  · refine Wc.condT h48 (by kernel_rfl) ?_
                    refine Wc.seq ?_
                    refine Wc.region [] [] [2] [] [] ⟨[(2, (.v (.bool false), []))], [], []⟩ _ (by kernel_rfl) .nil ?_
                    refine Wc.ret ?_
                    obtain rfl := Option.some.inj h27
                    obtain rfl := Option.some.inj h
                    exact ⟨.inl rfl, by kernel_rfl, by kernel_rfl⟩
                  · refine Wc.condF h48 (by kernel_rfl) ?_
                    refine Wc.fix (st' := ⟨[(1, (.ptr 1 0, [])), (3, (.v (.int .i64 (e31_.gCells.length : Int)), [])), (4, (.v (.int .i64 b32_), [])), (5, (.ptr 5 0, []))], [(1, .cells [.sl (List.map GCell.c e31_.gCells), .sl (List.map cI.i64 e31_.gTrail)] []), (5, .cells [.int .i64 c33_.gKind, .str c33_.gName, .int .i64 c33_.gNum, .int .i64 c33_.gTo, .sl (List.map cI.i64 c33_.gKids)] [])], []⟩) [] [1, 3, 4, 5] [1, 5] [] (by kernel_rfl) ?_
                    refine Wc.skip ?_
                    exact ⟨rfl, h27⟩
              · refine Wc.region [{}, {}, { r := some (.v (.bool f40_) []) }, {}, { re := some (.bool false) }, {}, {}, {}, { re := some (.bool false) }] [] [1, 3, 4, 5, 46] [1, 5] [] ⟨[(1, (.ptr 1 0, [])), (3, (.v (.int .i64 (e31_.gCells.length : Int)), [])), (4, (.v (.int .i64 b32_), [])), (5, (.ptr 5 0, [])), (46, (.v (.bool false), []))], [(1, .cells [.sl (List.map GCell.c e31_.gCells), .sl (List.map cI.i64 e31_.gTrail)] []), (5, .cells [.int .i64 c33_.gKind, .str c33_.gName, .int .i64 c33_.gNum, .int .i64 c33_.gTo, .sl (List.map cI.i64 c33_.gKids)] [])], []⟩ _ (by kernel_rfl) (.cons (cspec_l01In h42) (.cons (congrArg AV.bool h43) (.cons (congrArg AV.bool h44) .nil))) ?_
                refine Wc.condF rfl (by kernel_rfl) ?_
                refine Wc.fix (st' := ⟨[(1, (.ptr 1 0, [])), (3, (.v (.int .i64 (e31_.gCells.length : Int)), [])), (4, (.v (.int .i64 b32_), [])), (5, (.ptr 5 0, []))], [(1, .cells [.sl (List.map GCell.c e31_.gCells), .sl (List.map cI.i64 e31_.gTrail)] []), (5, .cells [.int .i64 c33_.gKind, .str c33_.gName, .int .i64 c33_.gNum, .int .i64 c33_.gTo, .sl (List.map cI.i64 c33_.gKids)] [])], []⟩) [] [1, 3, 4, 5] [1, 5] [] (by kernel_rfl) ?_
                refine Wc.skip ?_
                exact ⟨rfl, h27⟩
          · rintro st ⟨rfl, h27⟩
            refine Wc.seq ?_
            refine Wc.seq ?_
            refine Wc.region [] [] [1, 3, 4, 5, 6] [1, 5] [] ⟨[(1, (.ptr 1 0, [])), (3, (.v (.int .i64 (e31_.gCells.length : Int)), [])), (4, (.v (.int .i64 b32_), [])), (5, (.ptr 5 0, [])), (6, (.v (.int .i64 0), []))], [(1, .cells [.sl (List.map GCell.c e31_.gCells), .sl (List.map cI.i64 e31_.gTrail)] []), (5, .cells [.int .i64 c33_.gKind, .str c33_.gName, .int .i64 c33_.gNum, .int .i64 c33_.gTo, .sl (List.map cI.i64 c33_.gKids)] [])], []⟩ _ (by kernel_rfl) .nil ?_
            obtain ⟨out3, h30, h27⟩ := obind h27
            refine Wc.lastJ (fun st => out3 = .done () ∧ st = ⟨[(1, (.ptr 1 0, [])), (3, (.v (.int .i64 (e31_.gCells.length : Int)), [])), (4, (.v (.int .i64 b32_), [])), (5, (.ptr 5 0, []))], [(1, .cells [.sl (List.map GCell.c e31_.gCells), .sl (List.map cI.i64 e31_.gTrail)] []), (5, .cells [.int .i64 c33_.gKind, .str c33_.gName, .int .i64 c33_.gNum, .int .i64 c33_.gTo, .sl (List.map cI.i64 c33_.gKids)] [])], []⟩) ?_ ?_
            · refine Wc.block ?_
              refine Wc.loop (fun m st => ∃ (b34_ : Int), st = ⟨[(1, (.ptr 1 0, [])), (3, (.v (.int .i64 (e31_.gCells.length : Int)), [])), (4, (.v (.int .i64 b32_), [])), (5, (.ptr 5 0, [])), (6, (.v (.int .i64 b34_), []))], [(1, .cells [.sl (List.map GCell.c e31_.gCells), .sl (List.map cI.i64 e31_.gTrail)] []), (5, .cells [.int .i64 c33_.gKind, .str c33_.gName, .int .i64 c33_.gNum, .int .i64 c33_.gTo, .sl (List.map cI.i64 c33_.gKids)] [])], []⟩ ∧ pspec_HeapOk_L3 k c33_ e31_ m b34_ = some out3) ?_ k ⟨_, rfl, h30⟩
              rintro m st ⟨b34_, rfl, h30⟩
              cases m with
              | zero => exact (onone h30).elim
              | succ m =>
                refine Wc.seq ?_
                refine Wc.seq ?_
                refine Wc.region [{}, {}, {}, { v := some (.int .i64 (c33_.gKids.length : Int)) }] [] [1, 3, 4, 5, 6, 51] [1, 5] [] ⟨[(1, (.ptr 1 0, [])), (3, (.v (.int .i64 (e31_.gCells.length : Int)), [])), (4, (.v (.int .i64 b32_), [])), (5, (.ptr 5 0, [])), (6, (.v (.int .i64 b34_), [])), (51, (.v (.bool (decide (b34_ < (c33_.gKids.length : Int)))), []))], [(1, .cells [.sl (List.map GCell.c e31_.gCells), .sl (List.map cI.i64 e31_.gTrail)] []), (5, .cells [.int .i64 c33_.gKind, .str c33_.gName, .int .i64 c33_.gNum, .int .i64 c33_.gTo, .sl (List.map cI.i64 c33_.gKids)] [])], []⟩ _ (by kernel_rfl) (.cons (len_obl cI.i64 c33_.gKids) .nil) ?_
                rcases oif h30 with ⟨h31, h30⟩ | ⟨h31, h30⟩
                · refine Wc.condT h31 (by kernel_rfl) ?_
                  refine Wc.fix (st' := ⟨[(1, (.ptr 1 0, [])), (3, (.v (.int .i64 (e31_.gCells.length : Int)), [])), (4, (.v (.int .i64 b32_), [])), (5, (.ptr 5 0, [])), (6, (.v (.int .i64 b34_), []))], [(1, .cells [.sl (List.map GCell.c e31_.gCells), .sl (List.map cI.i64 e31_.gTrail)] []), (5, .cells [.int .i64 c33_.gKind, .str c33_.gName, .int .i64 c33_.gNum, .int .i64 c33_.gTo, .sl (List.map cI.i64 c33_.gKids)] [])], []⟩) [] [1, 3, 4, 5, 6] [1, 5] [] (by kernel_rfl) ?_
                  refine Wc.skip ?_
                  refine Wc.seq ?_
                  refine Wc.block ?_
                  refine Wc.seq ?_
                  obtain ⟨b35_, h32, h30⟩ := obind h30
                  obtain ⟨f36_, h33, h30⟩ := obind h30
                  refine Wc.region [{}, {}, {}, { v := some (.vptr [.int .i64 b35_]) }, {}, {}, {}, { r := some (.v (.bool f36_) []) }] [] [1, 3, 4, 5, 6, 62] [1, 5] [] ⟨[(1, (.ptr 1 0, [])), (3, (.v (.int .i64 (e31_.gCells.length : Int)), [])), (4, (.v (.int .i64 b32_), [])), (5, (.ptr 5 0, [])), (6, (.v (.int .i64 b34_), [])), (62, (.v (.bool (!f36_)), []))], [(1, .cells [.sl (List.map GCell.c e31_.gCells), .sl (List.map cI.i64 e31_.gTrail)] []), (5, .cells [.int .i64 c33_.gKind, .str c33_.gName, .int .i64 c33_.gNum, .int .i64 c33_.gTo, .sl (List.map cI.i64 c33_.gKids)] [])], []⟩ _ (by kernel_rfl) (.cons (at_obl (c := cI.i64) rfl cI.i64_len h32) (.cons (len_ok 1 [.int .i64 b35_]) (.cons (cspec_l01In h33) .nil))) ?_
                  rcases oif h30 with ⟨h34, h30⟩ | ⟨h34, h30⟩
                  · refine Wc.condT h34 (by kernel_rfl) ?_
                    refine Wc.seq ?_
                    refine Wc.region [] [] [2] [] [] ⟨[(2, (.v (.bool false), []))], [], []⟩ _ (by kernel_rfl) .nil ?_
                    refine Wc.ret ?_
                    obtain rfl := Option.some.inj h30
                    obtain rfl := Option.some.inj h27
                    obtain rfl := Option.some.inj h
                    exact ⟨.inl rfl, by kernel_rfl, by kernel_rfl⟩
                  · refine Wc.condF h34 (by kernel_rfl) ?_
                    refine Wc.fix (st' := ⟨[(1, (.ptr 1 0, [])), (3, (.v (.int .i64 (e31_.gCells.length : Int)), [])), (4, (.v (.int .i64 b32_), [])), (5, (.ptr 5 0, [])), (6, (.v (.int .i64 b34_), []))], [(1, .cells [.sl (List.map GCell.c e31_.gCells), .sl (List.map cI.i64 e31_.gTrail)] []), (5, .cells [.int .i64 c33_.gKind, .str c33_.gName, .int .i64 c33_.gNum, .int .i64 c33_.gTo, .sl (List.map cI.i64 c33_.gKids)] [])], []⟩) [] [1, 3, 4, 5, 6] [1, 5] [] (by kernel_rfl) ?_
                    refine Wc.skip ?_
                    refine Wc.region [] [] [1, 3, 4, 5, 6] [1, 5] [] ⟨[(1, (.ptr 1 0, [])), (3, (.v (.int .i64 (e31_.gCells.length : Int)), [])), (4, (.v (.int .i64 b32_), [])), (5, (.ptr 5 0, [])), (6, (.v (.int .i64 (wr.i64 (b34_ + 1))), []))], [(1, .cells [.sl (List.map GCell.c e31_.gCells), .sl (List.map cI.i64 e31_.gTrail)] []), (5, .cells [.int .i64 c33_.gKind, .str c33_.gName, .int .i64 c33_.gNum, .int .i64 c33_.gTo, .sl (List.map cI.i64 c33_.gKids)] [])], []⟩ _ (by kernel_rfl) .nil ?_
                    exact ⟨_, Nat.lt_succ_self _, _, rfl, h30⟩
                · refine Wc.condF h31 (by kernel_rfl) ?_
                  refine Wc.fix (st' := ⟨[(1, (.ptr 1 0, [])), (3, (.v (.int .i64 (e31_.gCells.length : Int)), [])), (4, (.v (.int .i64 b32_), [])), (5, (.ptr 5 0, []))], [(1, .cells [.sl (List.map GCell.c e31_.gCells), .sl (List.map cI.i64 e31_.gTrail)] []), (5, .cells [.int .i64 c33_.gKind, .str c33_.gName, .int .i64 c33_.gNum, .int .i64 c33_.gTo, .sl (List.map cI.i64 c33_.gKids)] [])], []⟩) [] [1, 3, 4, 5] [1, 5] [] (by kernel_rfl) ?_
                  refine Wc.exit ?_
                  obtain rfl := Option.some.inj h30
                  exact ⟨rfl, rfl⟩
            · rintro st ⟨rfl, rfl⟩
              refine Wc.seq ?_
              refine Wc.region [] [] [1, 3, 4, 5, 7] [1, 5] [] ⟨[(1, (.ptr 1 0, [])), (3, (.v (.int .i64 (e31_.gCells.length : Int)), [])), (4, (.v (.int .i64 b32_), [])), (5, (.ptr 5 0, [])), (7, (.v (.int .i64 0), []))], [(1, .cells [.sl (List.map GCell.c e31_.gCells), .sl (List.map cI.i64 e31_.gTrail)] []), (5, .cells [.int .i64 c33_.gKind, .str c33_.gName, .int .i64 c33_.gNum, .int .i64 c33_.gTo, .sl (List.map cI.i64 c33_.gKids)] [])], []⟩ _ (by kernel_rfl) .nil ?_
              obtain ⟨out4, h35, h27⟩ := obind h27
              refine Wc.lastJ (fun st => out4 = .done () ∧ st = ⟨[(1, (.ptr 1 0, [])), (3, (.v (.int .i64 (e31_.gCells.length : Int)), [])), (4, (.v (.int .i64 b32_), []))], [(1, .cells [.sl (List.map GCell.c e31_.gCells), .sl (List.map cI.i64 e31_.gTrail)] [])], []⟩) ?_ ?_
              · refine Wc.block ?_
                refine Wc.loop (fun m st => ∃ (b37_ : Int), st = ⟨[(1, (.ptr 1 0, [])), (3, (.v (.int .i64 (e31_.gCells.length : Int)), [])), (4, (.v (.int .i64 b32_), [])), (5, (.ptr 5 0, [])), (7, (.v (.int .i64 b37_), []))], [(1, .cells [.sl (List.map GCell.c e31_.gCells), .sl (List.map cI.i64 e31_.gTrail)] []), (5, .cells [.int .i64 c33_.gKind, .str c33_.gName, .int .i64 c33_.gNum, .int .i64 c33_.gTo, .sl (List.map cI.i64 c33_.gKids)] [])], []⟩ ∧ pspec_HeapOk_L4 k b32_ c33_ e31_ m b37_ = some out4) ?_ k ⟨_, rfl, h35⟩
                rintro m st ⟨b37_, rfl, h35⟩
                cases m with
                | zero => exact (onone h35).elim
                | succ m =>
                  refine Wc.seq ?_
                  refine Wc.seq ?_
                  rcases oif h35 with ⟨h36, h35⟩ | ⟨h36, h35⟩
                  · refine Wc.region [{}, {}, {}, { re := some (.bool true) }] [] [1, 3, 4, 5, 7, 70] [1, 5] [] ⟨[(1, (.ptr 1 0, [])), (3, (.v (.int .i64 (e31_.gCells.length : Int)), [])), (4, (.v (.int .i64 b32_), [])), (5, (.ptr 5 0, [])), (7, (.v (.int .i64 b37_), [])), (70, (.v (.bool (c33_.gKind == 1)), []))], [(1, .cells [.sl (List.map GCell.c e31_.gCells), .sl (List.map cI.i64 e31_.gTrail)] []), (5, .cells [.int .i64 c33_.gKind, .str c33_.gName, .int .i64 c33_.gNum, .int .i64 c33_.gTo, .sl (List.map cI.i64 c33_.gKids)] [])], []⟩ _ (by kernel_rfl) (.cons (congrArg AV.bool h36) .nil) ?_
                    rcases oif h35 with ⟨h37, h35⟩ | ⟨h37, h35⟩
                    · refine Wc.condT h37 (by kernel_rfl) ?_
                      refine Wc.fix (st' := ⟨[(1, (.ptr 1 0, [])), (3, (.v (.int .i64 (e31_.gCells.length : Int)), [])), (4, (.v (.int .i64 b32_), [])), (5, (.ptr 5 0, [])), (7, (.v (.int .i64 b37_), []))], [(1, .cells [.sl (List.map GCell.c e31_.gCells), .sl (List.map cI.i64 e31_.gTrail)] []), (5, .cells [.int .i64 c33_.gKind, .str c33_.gName, .int .i64 c33_.gNum, .int .i64 c33_.gTo, .sl (List.map cI.i64 c33_.gKids)] [])], []⟩) [] [1, 3, 4, 5, 7] [1, 5] [] (by kernel_rfl) ?_
                      refine Wc.skip ?_
                      refine Wc.seq ?_
                      refine Wc.block ?_
                      refine Wc.seq ?_
                      obtain ⟨c38_, h38, h35⟩ := obind h35
                      rcases oif h35 with ⟨h39, h35⟩ | ⟨h39, h35⟩
                      · obtain ⟨c39_, h40, h35⟩ := obind h35
                        refine Wc.draw hmix [{}, {}, {}, { v := some (.vptr [.int .i64 c38_.gKind, .str c38_.gName, .int .i64 c38_.gNum, .int .i64 c38_.gTo, .sl (List.map cI.i64 c38_.gKids)]) }, {}, {}, {}, { re := some (.bool true) }, {}, {}, {}, { v := some (.vptr [.int .i64 c39_.gKind, .str c39_.gName, .int .i64 c39_.gNum, .int .i64 c39_.gTo, .sl (List.map cI.i64 c39_.gKids)]) }] [] [1, 3, 4, 5, 7, 90] [1, 5] [] ⟨[(1, (.ptr 1 0, [])), (3, (.v (.int .i64 (e31_.gCells.length : Int)), [])), (4, (.v (.int .i64 b32_), [])), (5, (.ptr 5 0, [])), (7, (.v (.int .i64 b37_), [])), (90, (.v (.bool (c39_.gNum == c33_.gNum)), []))], [(1, .cells [.sl (List.map GCell.c e31_.gCells), .sl (List.map cI.i64 e31_.gTrail)] []), (5, .cells [.int .i64 c33_.gKind, .str c33_.gName, .int .i64 c33_.gNum, .int .i64 c33_.gTo, .sl (List.map cI.i64 c33_.gKids)] [])], []⟩ _ (by kernel_rfl) (fun X => by kernel_rfl) (.cons (at_obl (c := GCell.c) (GCell.c_eq c38_) GCell.c_len h38) (.cons (len_ok 1 [.int .i64 c38_.gKind, .str c38_.gName, .int .i64 c38_.gNum, .int .i64 c38_.gTo, .sl (List.map cI.i64 c38_.gKids)]) (.cons (congrArg AV.bool h39) (.cons (at_obl (c := GCell.c) (GCell.c_eq c39_) GCell.c_len h40) (.cons (len_ok 1 [.int .i64 c39_.gNum, .int .i64 c39_.gTo, .sl (List.map cI.i64 c39_.gKids)]) .nil))))) ?_
                        rcases oif h35 with ⟨h41, h35⟩ | ⟨h41, h35⟩
                        · refine Wc.condT h41 (by kernel_rfl) ?_
                          refine Wc.seq ?_
                          refine Wc.region [] [] [2] [] [] ⟨[(2, (.v (.bool false), []))], [], []⟩ _ (by kernel_rfl) .nil ?_
                          refine Wc.ret ?_
                          obtain rfl := Option.some.inj h35
                          obtain rfl := Option.some.inj h27
                          obtain rfl := Option.some.inj h
                          exact ⟨.inl rfl, by kernel_rfl, by kernel_rfl⟩
                        · refine Wc.condF h41 (by kernel_rfl) ?_
                          refine Wc.fix (st' := ⟨[(1, (.ptr 1 0, [])), (3, (.v (.int .i64 (e31_.gCells.length : Int)), [])), (4, (.v (.int .i64 b32_), [])), (5, (.ptr 5 0, [])), (7, (.v (.int .i64 b37_), []))], [(1, .cells [.sl (List.map GCell.c e31_.gCells), .sl (List.map cI.i64 e31_.gTrail)] []), (5, .cells [.int .i64 c33_.gKind, .str c33_.gName, .int .i64 c33_.gNum, .int .i64 c33_.gTo, .sl (List.map cI.i64 c33_.gKids)] [])], []⟩) [] [1, 3, 4, 5, 7] [1, 5] [] (by kernel_rfl) ?_
                          refine Wc.skip ?_
                          refine Wc.region [] [] [1, 3, 4, 5, 7] [1, 5] [] ⟨[(1, (.ptr 1 0, [])), (3, (.v (.int .i64 (e31_.gCells.length : Int)), [])), (4, (.v (.int .i64 b32_), [])), (5, (.ptr 5 0, [])), (7, (.v (.int .i64 (wr.i64 (b37_ + 1))), []))], [(1, .cells [.sl (List.map GCell.c e31_.gCells), .sl (List.map cI.i64 e31_.gTrail)] []), (5, .cells [.int .i64 c33_.gKind, .str c33_.gName, .int .i64 c33_.gNum, .int .i64 c33_.gTo, .sl (List.map cI.i64 c33_.gKids)] [])], []⟩ _ (by kernel_rfl) .nil ?_
                          exact ⟨_, Nat.lt_succ_self _, _, rfl, h35⟩
                      · refine Wc.draw hmix [{}, {}, {}, { v := some (.vptr [.int .i64 c38_.gKind, .str c38_.gName, .int .i64 c38_.gNum, .int .i64 c38_.gTo, .sl (List.map cI.i64 c38_.gKids)]) }, {}, {}, {}, { re := some (.bool false) }] [] [1, 3, 4, 5, 7, 90] [1, 5] [] ⟨[(1, (.ptr 1 0, [])), (3, (.v (.int .i64 (e31_.gCells.length : Int)), [])), (4, (.v (.int .i64 b32_), [])), (5, (.ptr 5 0, [])), (7, (.v (.int .i64 b37_), [])), (90, (.v (.bool false), []))], [(1, .cells [.sl (List.map GCell.c e31_.gCells), .sl (List.map cI.i64 e31_.gTrail)] []), (5, .cells [.int .i64 c33_.gKind, .str c33_.gName, .int .i64 c33_.gNum, .int .i64 c33_.gTo, .sl (List.map cI.i64 c33_.gKids)] [])], []⟩ _ (by kernel_rfl) (fun X => by kernel_rfl) (.cons (at_obl (c := GCell.c) (GCell.c_eq c38_) GCell.c_len h38) (.cons (len_ok 1 [.int .i64 c38_.gKind, .str c38_.gName, .int .i64 c38_.gNum, .int .i64 c38_.gTo, .sl (List.map cI.i64 c38_.gKids)]) (.cons (congrArg AV.bool h39) .nil))) ?_
                        refine Wc.condF rfl (by kernel_rfl) ?_
                        refine Wc.fix (st' := ⟨[(1, (.ptr 1 0, [])), (3, (.v (.int .i64 (e31_.gCells.length : Int)), [])), (4, (.v (.int .i64 b32_), [])), (5, (.ptr 5 0, [])), (7, (.v (.int .i64 b37_), []))], [(1, .cells [.sl (List.map GCell.c e31_.gCells), .sl (List.map cI.i64 e31_.gTrail)] []), (5, .cells [.int .i64 c33_.gKind, .str c33_.gName, .int .i64 c33_.gNum, .int .i64 c33_.gTo, .sl (List.map cI.i64 c33_.gKids)] [])], []⟩) [] [1, 3, 4, 5, 7] [1, 5] [] (by kernel_rfl) ?_
                        refine Wc.skip ?_
                        refine Wc.region [] [] [1, 3, 4, 5, 7] [1, 5] [] ⟨[(1, (.ptr 1 0, [])), (3, (.v (.int .i64 (e31_.gCells.length : Int)), [])), (4, (.v (.int .i64 b32_), [])), (5, (.ptr 5 0, [])), (7, (.v (.int .i64 (wr.i64 (b37_ + 1))), []))], [(1, .cells [.sl (List.map GCell.c e31_.gCells), .sl (List.map cI.i64 e31_.gTrail)] []), (5, .cells [.int .i64 c33_.gKind, .str c33_.gName, .int .i64 c33_.gNum, .int .i64 c33_.gTo, .sl (List.map cI.i64 c33_.gKids)] [])], []⟩ _ (by kernel_rfl) .nil ?_
                        exact ⟨_, Nat.lt_succ_self _, _, rfl, h35⟩
                    · refine Wc.condF h37 (by kernel_rfl) ?_
                      refine Wc.fix (st' := ⟨[(1, (.ptr 1 0, [])), (3, (.v (.int .i64 (e31_.gCells.length : Int)), [])), (4, (.v (.int .i64 b32_), []))], [(1, .cells [.sl (List.map GCell.c e31_.gCells), .sl (List.map cI.i64 e31_.gTrail)] [])], []⟩) [] [1, 3, 4] [1] [] (by kernel_rfl) ?_
                      refine Wc.exit ?_
                      obtain rfl := Option.some.inj h35
                      exact ⟨rfl, rfl⟩
                  · refine Wc.region [{}, {}, {}, { re := some (.bool false) }] [] [1, 3, 4, 5, 7, 70] [1, 5] [] ⟨[(1, (.ptr 1 0, [])), (3, (.v (.int .i64 (e31_.gCells.length : Int)), [])), (4, (.v (.int .i64 b32_), [])), (5, (.ptr 5 0, [])), (7, (.v (.int .i64 b37_), [])), (70, (.v (.bool false), []))], [(1, .cells [.sl (List.map GCell.c e31_.gCells), .sl (List.map cI.i64 e31_.gTrail)] []), (5, .cells [.int .i64 c33_.gKind, .str c33_.gName, .int .i64 c33_.gNum, .int .i64 c33_.gTo, .sl (List.map cI.i64 c33_.gKids)] [])], []⟩ _ (by kernel_rfl) (.cons (congrArg AV.bool h36) .nil) ?_
                    refine Wc.condF rfl (by kernel_rfl) ?_
                    refine Wc.fix (st' := ⟨[(1, (.ptr 1 0, [])), (3, (.v (.int .i64 (e31_.gCells.length : Int)), [])), (4, (.v (.int .i64 b32_), []))], [(1, .cells [.sl (List.map GCell.c e31_.gCells), .sl (List.map cI.i64 e31_.gTrail)] [])], []⟩) [] [1, 3, 4] [1] [] (by kernel_rfl) ?_
                    refine Wc.exit ?_
                    obtain rfl := Option.some.inj h35
                    exact ⟨rfl, rfl⟩
              · rintro st ⟨rfl, rfl⟩
                refine Wc.region [] [] [1, 3, 4] [1] [] ⟨[(1, (.ptr 1 0, [])), (3, (.v (.int .i64 (e31_.gCells.length : Int)), [])), (4, (.v (.int .i64 (wr.i64 (b32_ + 1))), []))], [(1, .cells [.sl (List.map GCell.c e31_.gCells), .sl (List.map cI.i64 e31_.gTrail)] [])], []⟩ _ (by kernel_rfl) .nil ?_
                exact ⟨_, Nat.lt_succ_self _, _, rfl, h27⟩
        · refine Wc.condF h28 (by kernel_rfl) ?_
          refine Wc.fix (st' := ⟨[(1, (.ptr 1 0, [])), (3, (.v (.int .i64 (e31_.gCells.length : Int)), []))], [(1, .cells [.sl (List.map GCell.c e31_.gCells), .sl (List.map cI.i64 e31_.gTrail)] [])], []⟩) [] [1, 3] [1] [] (by kernel_rfl) ?_
          refine Wc.exit ?_
          obtain rfl := Option.some.inj h27
          exact ⟨rfl, rfl⟩
    · rintro st ⟨rfl, rfl⟩
      refine Wc.seq ?_
      refine Wc.seq ?_
      refine Wc.region [] [] [1, 3, 8] [1] [] ⟨[(1, (.ptr 1 0, [])), (3, (.v (.int .i64 (e31_.gCells.length : Int)), [])), (8, (.v (.int .i64 0), []))], [(1, .cells [.sl (List.map GCell.c e31_.gCells), .sl (List.map cI.i64 e31_.gTrail)] [])], []⟩ _ (by kernel_rfl) .nil ?_
      obtain ⟨out5, h49, h⟩ := obind h
      refine Wc.lastJ (fun st => out5 = .done () ∧ st = ⟨[], [], []⟩) ?_ ?_
      · refine Wc.block ?_
        refine Wc.loop (fun m st => ∃ (b43_ : Int), st = ⟨[(1, (.ptr 1 0, [])), (3, (.v (.int .i64 (e31_.gCells.length : Int)), [])), (8, (.v (.int .i64 b43_), []))], [(1, .cells [.sl (List.map GCell.c e31_.gCells), .sl (List.map cI.i64 e31_.gTrail)] [])], []⟩ ∧ pspec_HeapOk_L5 k e31_ m b43_ = some out5) ?_ k ⟨_, rfl, h49⟩
        rintro m st ⟨b43_, rfl, h49⟩
        cases m with
        | zero => exact (onone h49).elim
        | succ m =>
          refine Wc.seq ?_
          refine Wc.seq ?_
          refine Wc.region [{}, {}, {}, { v := some (.int .i64 (e31_.gTrail.length : Int)) }] [] [1, 3, 8, 95] [1] [] ⟨[(1, (.ptr 1 0, [])), (3, (.v (.int .i64 (e31_.gCells.length : Int)), [])), (8, (.v (.int .i64 b43_), [])), (95, (.v (.bool (decide (b43_ < (e31_.gTrail.length : Int)))), []))], [(1, .cells [.sl (List.map GCell.c e31_.gCells), .sl (List.map cI.i64 e31_.gTrail)] [])], []⟩ _ (by kernel_rfl) (.cons (len_obl cI.i64 e31_.gTrail) .nil) ?_
          rcases oif h49 with ⟨h50, h49⟩ | ⟨h50, h49⟩
          · refine Wc.condT h50 (by kernel_rfl) ?_
            refine Wc.fix (st' := ⟨[(1, (.ptr 1 0, [])), (3, (.v (.int .i64 (e31_.gCells.length : Int)), [])), (8, (.v (.int .i64 b43_), []))], [(1, .cells [.sl (List.map GCell.c e31_.gCells), .sl (List.map cI.i64 e31_.gTrail)] [])], []⟩) [] [1, 3, 8] [1] [] (by kernel_rfl) ?_
            refine Wc.skip ?_
            refine Wc.seq ?_
            refine Wc.block ?_
            refine Wc.seq ?_
            obtain ⟨b44_, h51, h49⟩ := obind h49
            obtain ⟨f45_, h52, h49⟩ := obind h49
            rcases oif h49 with ⟨h53, h49⟩ | ⟨h53, h49⟩
            · refine Wc.draw hmix [{}, {}, {}, { v := some (.vptr [.int .i64 b44_]) }, {}, {}, {}, { r := some (.v (.bool f45_) []) }, {}, { re := some (.bool true) }] [] [1, 3, 8, 119] [1] [] ⟨[(1, (.ptr 1 0, [])), (3, (.v (.int .i64 (e31_.gCells.length : Int)), [])), (8, (.v (.int .i64 b43_), [])), (119, (.v (.bool true), []))], [(1, .cells [.sl (List.map GCell.c e31_.gCells), .sl (List.map cI.i64 e31_.gTrail)] [])], []⟩ _ (by kernel_rfl) (fun X => by kernel_rfl) (.cons (at_obl (c := cI.i64) rfl cI.i64_len h51) (.cons (len_ok 1 [.int .i64 b44_]) (.cons (cspec_l01In h52) (.cons (congrArg AV.bool h53) .nil)))) ?_
              refine Wc.condT rfl (by kernel_rfl) ?_
              refine Wc.seq ?_
              refine Wc.region [] [] [2] [] [] ⟨[(2, (.v (.bool false), []))], [], []⟩ _ (by kernel_rfl) .nil ?_
              refine Wc.ret ?_
              obtain rfl := Option.some.inj h49
              obtain rfl := Option.some.inj h
              exact ⟨.inl rfl, by kernel_rfl, by kernel_rfl⟩
            · obtain ⟨b46_, h54, h49⟩ := obind h49
              obtain ⟨c47_, h55, h49⟩ := obind h49
              refine Wc.draw hmix [{}, {}, {}, { v := some (.vptr [.int .i64 b44_]) }, {}, {}, {}, { r := some (.v (.bool f45_) []) }, {}, { re := some (.bool false) }, {}, {}, {}, {}, {}, { v := some (.vptr [.int .i64 b46_]) }, {}, { v := some (.vptr [.int .i64 c47_.gKind, .str c47_.gName, .int .i64 c47_.gNum, .int .i64 c47_.gTo, .sl (List.map cI.i64 c47_.gKids)]) }] [] [1, 3, 8, 119] [1] [] ⟨[(1, (.ptr 1 0, [])), (3, (.v (.int .i64 (e31_.gCells.length : Int)), [])), (8, (.v (.int .i64 b43_), [])), (119, (.v (.bool (c47_.gKind != 1)), []))], [(1, .cells [.sl (List.map GCell.c e31_.gCells), .sl (List.map cI.i64 e31_.gTrail)] [])], []⟩ _ (by kernel_rfl) (fun X => by kernel_rfl) (.cons (at_obl (c := cI.i64) rfl cI.i64_len h51) (.cons (len_ok 1 [.int .i64 b44_]) (.cons (cspec_l01In h52) (.cons (congrArg AV.bool h53) (.cons (at_obl (c := cI.i64) rfl cI.i64_len h54) (.cons (len_ok 1 [.int .i64 b46_]) (.cons (at_obl (c := GCell.c) (GCell.c_eq c47_) GCell.c_len h55) (.cons (len_ok 1 [.int .i64 c47_.gKind, .str c47_.gName, .int .i64 c47_.gNum, .int .i64 c47_.gTo, .sl (List.map cI.i64 c47_.gKids)]) .nil)))))))) ?_
              rcases oif h49 with ⟨h56, h49⟩ | ⟨h56, h49⟩
              · refine Wc.condT h56 (by kernel_rfl) ?_
                refine Wc.seq ?_
                refine Wc.region [] [] [2] [] [] ⟨[(2, (.v (.bool false), []))], [], []⟩ _ (by kernel_rfl) .nil ?_
                refine Wc.ret ?_
                obtain rfl := Option.some.inj h49
                obtain rfl := Option.some.inj h
                exact ⟨.inl rfl, by kernel_rfl, by kernel_rfl⟩
              · refine Wc.condF h56 (by kernel_rfl) ?_
                refine Wc.fix (st' := ⟨[(1, (.ptr 1 0, [])), (3, (.v (.int .i64 (e31_.gCells.length : Int)), [])), (8, (.v (.int .i64 b43_), []))], [(1, .cells [.sl (List.map GCell.c e31_.gCells), .sl (List.map cI.i64 e31_.gTrail)] [])], []⟩) [] [1, 3, 8] [1] [] (by kernel_rfl) ?_
                refine Wc.skip ?_
                refine Wc.region [] [] [1, 3, 8] [1] [] ⟨[(1, (.ptr 1 0, [])), (3, (.v (.int .i64 (e31_.gCells.length : Int)), [])), (8, (.v (.int .i64 (wr.i64 (b43_ + 1))), []))], [(1, .cells [.sl (List.map GCell.c e31_.gCells), .sl (List.map cI.i64 e31_.gTrail)] [])], []⟩ _ (by kernel_rfl) .nil ?_
                exact ⟨_, Nat.lt_succ_self _, _, rfl, h49⟩
          · refine Wc.condF h50 (by kernel_rfl) ?_
            refine Wc.fix (st' := ⟨[], [], []⟩) [] [] [] [] (by kernel_rfl) ?_
            refine Wc.exit ?_
            obtain rfl := Option.some.inj h49
            exact ⟨rfl, rfl⟩
      · rintro st ⟨rfl, rfl⟩
        refine Wc.seq ?_
        refine Wc.region [] [] [2] [] [] ⟨[(2, (.v (.bool true), []))], [], []⟩ _ (by kernel_rfl) .nil ?_
        refine Wc.ret ?_
        obtain rfl := Option.some.inj h
        exact ⟨.inl rfl, by kernel_rfl, by kernel_rfl⟩

def pspec_l03Name_L1 (k : Nat) (g48_ : ByteArray) : Nat → Int → Option (Out Bool Unit)
  | 0, _ => none
  | m + 1, b49_ =>
    if (decide (b49_ < (g48_.size : Int))) = true then
      if 0 ≤ b49_ ∧ (b49_).toNat < g48_.size then
        if (decide ((bt g48_ b49_) < 33)) = true then
          some (.ret false)
        else
          if 0 ≤ b49_ ∧ (b49_).toNat < g48_.size then
            if (decide ((bt g48_ b49_) > 126)) = true then
              some (.ret false)
            else
              if 0 ≤ b49_ ∧ (b49_).toNat < g48_.size then
                if ((bt g48_ b49_) == 39) = true then
                  some (.ret false)
                else
                  if 0 ≤ b49_ ∧ (b49_).toNat < g48_.size then
                    if ((bt g48_ b49_) == 34) = true then
                      some (.ret false)
                    else
                      pspec_l03Name_L1 k g48_ m (wr.i64 (b49_ + 1))
                  else none
              else none
          else none
      else none
    else
      some (.done ())
/-- spec.l03Name -/
def pspec_l03Name (k : Nat) (g48_ : ByteArray) : Option Bool :=
  (pspec_l03Name_L1 k g48_ k 0).bind fun out1 => match out1 with
  | .ret r => some r
  | .done () =>
    (pspec_l01In k (g48_.size : Int) 1 20).bind fun f50_ =>
    some f50_
theorem cspec_l03Name {k : Nat} {g48_ : ByteArray} {r : Bool} (h : pspec_l03Name k g48_ = some r) : FnO Try.prog 156 [.v (.str g48_) []] (.v (.bool r) []) [] := by
  refine FnO.of Try.func156 (rfl : Try.f156.body = some _) (Nat.le_of_ble_eq_true (by kernel_rfl)) (Nat.le_of_ble_eq_true (by kernel_rfl)) ?_
  intro w0 X0 Fin pv0 pb
  unfold pspec_l03Name at h
  refine Wc.seq ?_
  refine Wc.region [] [] [0] [] [] ⟨[(0, (.v (.str g48_), []))], [], []⟩ _ (by kernel_rfl) .nil ?_
  refine Wc.seq ?_
  refine Wc.seq ?_
  refine Wc.region [] [] [0, 3] [] [] ⟨[(0, (.v (.str g48_), [])), (3, (.v (.int .i64 0), []))], [], []⟩ _ (by kernel_rfl) .nil ?_
  obtain ⟨out1, h57, h⟩ := obind h
  refine Wc.lastJ (fun st => out1 = .done () ∧ st = ⟨[(0, (.v (.str g48_), []))], [], []⟩) ?_ ?_
  · refine Wc.block ?_
    refine Wc.loop (fun m st => ∃ (b49_ : Int), st = ⟨[(0, (.v (.str g48_), [])), (3, (.v (.int .i64 b49_), []))], [], []⟩ ∧ pspec_l03Name_L1 k g48_ m b49_ = some out1) ?_ k ⟨_, rfl, h57⟩
    rintro m st ⟨b49_, rfl, h57⟩
    cases m with
    | zero => exact (onone h57).elim
    | succ m =>
      refine Wc.seq ?_
      refine Wc.seq ?_
      refine Wc.region [] [] [0, 3, 7] [] [] ⟨[(0, (.v (.str g48_), [])), (3, (.v (.int .i64 b49_), [])), (7, (.v (.bool (decide (b49_ < (g48_.size : Int)))), []))], [], []⟩ _ (by kernel_rfl) .nil ?_
      rcases oif h57 with ⟨h58, h57⟩ | ⟨h58, h57⟩
      · refine Wc.condT h58 (by kernel_rfl) ?_
        refine Wc.fix (st' := ⟨[(0, (.v (.str g48_), [])), (3, (.v (.int .i64 b49_), []))], [], []⟩) [] [0, 3] [] [] (by kernel_rfl) ?_
        refine Wc.skip ?_
        refine Wc.seq ?_
        refine Wc.block ?_
        refine Wc.seq ?_
        obtain ⟨h59, h57⟩ := oguard h57
        rcases oif h57 with ⟨h60, h57⟩ | ⟨h60, h57⟩
        · refine Wc.region [{}, {}, {}, {}, { re := some (.bool true) }] [] [0, 3, 31] [] [] ⟨[(0, (.v (.str g48_), [])), (3, (.v (.int .i64 b49_), [])), (31, (.v (.bool true), []))], [], []⟩ _ (by kernel_rfl) (.cons h59 (.cons (congrArg AV.bool h60) .nil)) ?_
          refine Wc.condT rfl (by kernel_rfl) ?_
          refine Wc.seq ?_
          refine Wc.region [] [] [2] [] [] ⟨[(2, (.v (.bool false), []))], [], []⟩ _ (by kernel_rfl) .nil ?_
          refine Wc.ret ?_
          obtain rfl := Option.some.inj h57
          obtain rfl := Option.some.inj h
          exact ⟨.inl rfl, by kernel_rfl, by kernel_rfl⟩
        · obtain ⟨h61, h57⟩ := oguard h57
          rcases oif h57 with ⟨h62, h57⟩ | ⟨h62, h57⟩
          · refine Wc.region [{}, {}, {}, {}, { re := some (.bool false) }, {}, {}, {}, {}, {}, { re := some (.bool true) }] [] [0, 3, 31] [] [] ⟨[(0, (.v (.str g48_), [])), (3, (.v (.int .i64 b49_), [])), (31, (.v (.bool true), []))], [], []⟩ _ (by kernel_rfl) (.cons h59 (.cons (congrArg AV.bool h60) (.cons h61 (.cons (congrArg AV.bool h62) .nil)))) ?_
            refine Wc.condT rfl (by kernel_rfl) ?_
            refine Wc.seq ?_
            refine Wc.region [] [] [2] [] [] ⟨[(2, (.v (.bool false), []))], [], []⟩ _ (by kernel_rfl) .nil ?_
            refine Wc.ret ?_
            obtain rfl := Option.some.inj h57
            obtain rfl := Option.some.inj h
            exact ⟨.inl rfl, by kernel_rfl, by kernel_rfl⟩
          · obtain ⟨h63, h57⟩ := oguard h57
            rcases oif h57 with ⟨h64, h57⟩ | ⟨h64, h57⟩
            · refine Wc.region [{}, {}, {}, {}, { re := some (.bool false) }, {}, {}, {}, {}, {}, { re := some (.bool false) }, {}, {}, {}, {}, {}, { re := some (.bool true) }] [] [0, 3, 31] [] [] ⟨[(0, (.v (.str g48_), [])), (3, (.v (.int .i64 b49_), [])), (31, (.v (.bool true), []))], [], []⟩ _ (by kernel_rfl) (.cons h59 (.cons (congrArg AV.bool h60) (.cons h61 (.cons (congrArg AV.bool h62) (.cons h63 (.cons (congrArg AV.bool h64) .nil)))))) ?_
              refine Wc.condT rfl (by kernel_rfl) ?_
              refine Wc.seq ?_
              refine Wc.region [] [] [2] [] [] ⟨[(2, (.v (.bool false), []))], [], []⟩ _ (by kernel_rfl) .nil ?_
              refine Wc.ret ?_
              obtain rfl := Option.some.inj h57
              obtain rfl := Option.some.inj h
              exact ⟨.inl rfl, by kernel_rfl, by kernel_rfl⟩
            · obtain ⟨h65, h57⟩ := oguard h57
              refine Wc.region [{}, {}, {}, {}, { re := some (.bool false) }, {}, {}, {}, {}, {}, { re := some (.bool false) }, {}, {}, {}, {}, {}, { re := some (.bool false) }] [] [0, 3, 31] [] [] ⟨[(0, (.v (.str g48_), [])), (3, (.v (.int .i64 b49_), [])), (31, (.v (.bool ((bt g48_ b49_) == 34)), []))], [], []⟩ _ (by kernel_rfl) (.cons h59 (.cons (congrArg AV.bool h60) (.cons h61 (.cons (congrArg AV.bool h62) (.cons h63 (.cons (congrArg AV.bool h64) (.cons h65 .nil))))))) ?_
              rcases oif h57 with ⟨h66, h57⟩ | ⟨h66, h57⟩
              · refine Wc.condT h66 (by kernel_rfl) ?_
                refine Wc.seq ?_
                refine Wc.region [] [] [2] [] [] ⟨[(2, (.v (.bool false), []))], [], []⟩ _ (by kernel_rfl) .nil ?_
                refine Wc.ret ?_
                obtain rfl := Option.some.inj h57
                obtain rfl := Option.some.inj h
                exact ⟨.inl rfl, by kernel_rfl, by kernel_rfl⟩
              · refine Wc.condF h66 (by kernel_rfl) ?_
                refine Wc.fix (st' := ⟨[(0, (.v (.str g48_), [])), (3, (.v (.int .i64 b49_), []))], [], []⟩) [] [0, 3] [] [] (by kernel_rfl) ?_
                refine Wc.skip ?_
                refine Wc.region [] [] [0, 3] [] [] ⟨[(0, (.v (.str g48_), [])), (3, (.v (.int .i64 (wr.i64 (b49_ + 1))), []))], [], []⟩ _ (by kernel_rfl) .nil ?_
                exact ⟨_, Nat.lt_succ_self _, _, rfl, h57⟩
      · refine Wc.condF h58 (by kernel_rfl) ?_
        refine Wc.fix (st' := ⟨[(0, (.v (.str g48_), []))], [], []⟩) [] [0] [] [] (by kernel_rfl) ?_
        refine Wc.exit ?_
        obtain rfl := Option.some.inj h57
        exact ⟨rfl, rfl⟩
  · rintro st ⟨rfl, rfl⟩
    refine Wc.seq ?_
    obtain ⟨f50_, h67, h⟩ := obind h
    refine Wc.region [{}, {}, { r := some (.v (.bool f50_) []) }] [] [2] [] [] ⟨[(2, (.v (.bool f50_), []))], [], []⟩ _ (by kernel_rfl) (.cons (cspec_l01In h67) .nil) ?_
    refine Wc.ret ?_
    obtain rfl := Option.some.inj h
    exact ⟨.inl rfl, by kernel_rfl, by kernel_rfl⟩

/-- spec.l03One -/
def pspec_l03One (k : Nat) (i51_ : GTerm) : Option Bool :=
  if (i51_.gKind == 1) = true then
    (pspec_l01In k i51_.gNum 0 99999).bind fun f52_ =>
    if f52_ = true then
      if (sEq i51_.gName (bs [])) = true then
        some ((i51_.gKids.length : Int) == 0)
      else
        some false
    else
      some false
  else
    if (i51_.gKind == 2) = true then
      (pspec_l03Name k i51_.gName).bind fun f53_ =>
      if f53_ = true then
        if (i51_.gNum == 0) = true then
          some ((i51_.gKids.length : Int) == 0)
        else
          some false
      else
        some false
    else
      if (i51_.gKind == 3) = true then
        (pspec_l01In k i51_.gNum (-999999999) 999999999).bind fun f54_ =>
        if f54_ = true then
          if (sEq i51_.gName (bs [])) = true then
            some ((i51_.gKids.length : Int) == 0)
          else
            some false
        else
          some false
      else
        if (i51_.gKind == 4) = true then
          (pspec_l03Name k i51_.gName).bind fun f55_ =>
          if f55_ = true then
            if (i51_.gNum == 0) = true then
              (pspec_l01In k (i51_.gKids.length : Int) 1 5).bind fun f56_ =>
              some f56_
            else
              some false
          else
            some false
        else
          some false
theorem cspec_l03One {k : Nat} {i51_ : GTerm} {r : Bool} (h : pspec_l03One k i51_ = some r) : FnO Try.prog 141 [.v (.agg [.int .i64 i51_.gKind, .str i51_.gName, .int .i64 i51_.gNum, .sl (List.map GTerm.c i51_.gKids)]) []] (.v (.bool r) []) [] := by
  refine FnO.of Try.func141 (rfl : Try.f141.body = some _) (Nat.le_of_ble_eq_true (by kernel_rfl)) (Nat.le_of_ble_eq_true (by kernel_rfl)) ?_
  intro w0 X0 Fin pv0 pb
  unfold pspec_l03One at h
  refine Wc.seq ?_
  refine Wc.region [] [] [1] [1] [] ⟨[(1, (.ptr 1 0, []))], [(1, .cells [.int .i64 i51_.gKind, .str i51_.gName, .int .i64 i51_.gNum, .sl (List.map GTerm.c i51_.gKids)] [])], []⟩ _ (by kernel_rfl) .nil ?_
  refine Wc.seq ?_
  refine Wc.seq ?_
  refine Wc.region [] [] [1, 4] [1] [] ⟨[(1, (.ptr 1 0, [])), (4, (.v (.int .i64 i51_.gKind), []))], [(1, .cells [.int .i64 i51_.gKind, .str i51_.gName, .int .i64 i51_.gNum, .sl (List.map GTerm.c i51_.gKids)] [])], []⟩ _ (by kernel_rfl) .nil ?_
  refine Wc.block ?_
  refine Wc.seq ?_
  refine Wc.region [] [] [1, 4, 5] [1] [] ⟨[(1, (.ptr 1 0, [])), (4, (.v (.int .i64 i51_.gKind), [])), (5, (.v (.bool (i51_.gKind == 1)), []))], [(1, .cells [.int .i64 i51_.gKind, .str i51_.gName, .int .i64 i51_.gNum, .sl (List.map GTerm.c i51_.gKids)] [])], []⟩ _ (by kernel_rfl) .nil ?_
  rcases oif h with ⟨h68, h⟩ | ⟨h68, h⟩
  · refine Wc.condT h68 (by kernel_rfl) ?_
    refine Wc.seq ?_
    obtain ⟨f52_, h69, h⟩ := obind h
    rcases oif h with ⟨h70, h⟩ | ⟨h70, h⟩
    · rcases oif h with ⟨h71, h⟩ | ⟨h71, h⟩
      · refine Wc.region [{}, {}, { r := some (.v (.bool f52_) []) }, { re := some (.bool true) }, {}, {}, {}, {}, { re := some (.bool true) }, {}, {}, { v := some (.int .i64 (i51_.gKids.length : Int)) }] [] [2] [] [] ⟨[(2, (.v (.bool ((i51_.gKids.length : Int) == 0)), []))], [], []⟩ _ (by kernel_rfl) (.cons (cspec_l01In h69) (.cons (congrArg AV.bool h70) (.cons (congrArg AV.bool h71) (.cons (len_obl GTerm.c i51_.gKids) .nil)))) ?_
        refine Wc.ret ?_
        obtain rfl := Option.some.inj h
        exact ⟨.inl rfl, by kernel_rfl, by kernel_rfl⟩
      · refine Wc.region [{}, {}, { r := some (.v (.bool f52_) []) }, { re := some (.bool true) }, {}, {}, {}, {}, { re := some (.bool false) }] [] [2] [] [] ⟨[(2, (.v (.bool false), []))], [], []⟩ _ (by kernel_rfl) (.cons (cspec_l01In h69) (.cons (congrArg AV.bool h70) (.cons (congrArg AV.bool h71) .nil))) ?_
        refine Wc.ret ?_
        obtain rfl := Option.some.inj h
        exact ⟨.inl rfl, by kernel_rfl, by kernel_rfl⟩
    · refine Wc.region [{}, {}, { r := some (.v (.bool f52_) []) }, { re := some (.bool false) }] [] [2] [] [] ⟨[(2, (.v (.bool false), []))], [], []⟩ _ (by kernel_rfl) (.cons (cspec_l01In h69) (.cons (congrArg AV.bool h70) .nil)) ?_
      refine Wc.ret ?_
      obtain rfl := Option.some.inj h
      exact ⟨.inl rfl, by kernel_rfl, by kernel_rfl⟩
  · refine Wc.condF h68 (by kernel_rfl) ?_
    refine Wc.seq ?_
    refine Wc.region [] [] [1, 4, 21] [1] [] ⟨[(1, (.ptr 1 0, [])), (4, (.v (.int .i64 i51_.gKind), [])), (21, (.v (.bool (i51_.gKind == 2)), []))], [(1, .cells [.int .i64 i51_.gKind, .str i51_.gName, .int .i64 i51_.gNum, .sl (List.map GTerm.c i51_.gKids)] [])], []⟩ _ (by kernel_rfl) .nil ?_
    rcases oif h with ⟨h72, h⟩ | ⟨h72, h⟩
    · refine Wc.condT h72 (by kernel_rfl) ?_
      refine Wc.seq ?_
      obtain ⟨f53_, h73, h⟩ := obind h
      rcases oif h with ⟨h74, h⟩ | ⟨h74, h⟩
      · rcases oif h with ⟨h75, h⟩ | ⟨h75, h⟩
        · refine Wc.region [{}, {}, { r := some (.v (.bool f53_) []) }, { re := some (.bool true) }, {}, {}, {}, {}, { re := some (.bool true) }, {}, {}, { v := some (.int .i64 (i51_.gKids.length : Int)) }] [] [2] [] [] ⟨[(2, (.v (.bool ((i51_.gKids.length : Int) == 0)), []))], [], []⟩ _ (by kernel_rfl) (.cons (cspec_l03Name h73) (.cons (congrArg AV.bool h74) (.cons (congrArg AV.bool h75) (.cons (len_obl GTerm.c i51_.gKids) .nil)))) ?_
          refine Wc.ret ?_
          obtain rfl := Option.some.inj h
          exact ⟨.inl rfl, by kernel_rfl, by kernel_rfl⟩
        · refine Wc.region [{}, {}, { r := some (.v (.bool f53_) []) }, { re := some (.bool true) }, {}, {}, {}, {}, { re := some (.bool false) }] [] [2] [] [] ⟨[(2, (.v (.bool false), []))], [], []⟩ _ (by kernel_rfl) (.cons (cspec_l03Name h73) (.cons (congrArg AV.bool h74) (.cons (congrArg AV.bool h75) .nil))) ?_
          refine Wc.ret ?_
          obtain rfl := Option.some.inj h
          exact ⟨.inl rfl, by kernel_rfl, by kernel_rfl⟩
      · refine Wc.region [{}, {}, { r := some (.v (.bool f53_) []) }, { re := some (.bool false) }] [] [2] [] [] ⟨[(2, (.v (.bool false), []))], [], []⟩ _ (by kernel_rfl) (.cons (cspec_l03Name h73) (.cons (congrArg AV.bool h74) .nil)) ?_
        refine Wc.ret ?_
        obtain rfl := Option.some.inj h
        exact ⟨.inl rfl, by kernel_rfl, by kernel_rfl⟩
    · refine Wc.condF h72 (by kernel_rfl) ?_
      refine Wc.seq ?_
      refine Wc.region [] [] [1, 4, 37] [1] [] ⟨[(1, (.ptr 1 0, [])), (4, (.v (.int .i64 i51_.gKind), [])), (37, (.v (.bool (i51_.gKind == 3)), []))], [(1, .cells [.int .i64 i51_.gKind, .str i51_.gName, .int .i64 i51_.gNum, .sl (List.map GTerm.c i51_.gKids)] [])], []⟩ _ (by kernel_rfl) .nil ?_
      rcases oif h with ⟨h76, h⟩ | ⟨h76, h⟩
      · refine Wc.condT h76 (by kernel_rfl) ?_
        refine Wc.seq ?_
        obtain ⟨f54_, h77, h⟩ := obind h
        rcases oif h with ⟨h78, h⟩ | ⟨h78, h⟩
        · rcases oif h with ⟨h79, h⟩ | ⟨h79, h⟩
          · refine Wc.region [{}, {}, { r := some (.v (.bool f54_) []) }, { re := some (.bool true) }, {}, {}, {}, {}, { re := some (.bool true) }, {}, {}, { v := some (.int .i64 (i51_.gKids.length : Int)) }] [] [2] [] [] ⟨[(2, (.v (.bool ((i51_.gKids.length : Int) == 0)), []))], [], []⟩ _ (by kernel_rfl) (.cons (cspec_l01In h77) (.cons (congrArg AV.bool h78) (.cons (congrArg AV.bool h79) (.cons (len_obl GTerm.c i51_.gKids) .nil)))) ?_
            refine Wc.ret ?_
            obtain rfl := Option.some.inj h
            exact ⟨.inl rfl, by kernel_rfl, by kernel_rfl⟩
          · refine Wc.region [{}, {}, { r := some (.v (.bool f54_) []) }, { re := some (.bool true) }, {}, {}, {}, {}, { re := some (.bool false) }] [] [2] [] [] ⟨[(2, (.v (.bool false), []))], [], []⟩ _ (by kernel_rfl) (.cons (cspec_l01In h77) (.cons (congrArg AV.bool h78) (.cons (congrArg AV.bool h79) .nil))) ?_
            refine Wc.ret ?_
            obtain rfl := Option.some.inj h
            exact ⟨.inl rfl, by kernel_rfl, by kernel_rfl⟩
        · refine Wc.region [{}, {}, { r := some (.v (.bool f54_) []) }, { re := some (.bool false) }] [] [2] [] [] ⟨[(2, (.v (.bool false), []))], [], []⟩ _ (by kernel_rfl) (.cons (cspec_l01In h77) (.cons (congrArg AV.bool h78) .nil)) ?_
          refine Wc.ret ?_
          obtain rfl := Option.some.inj h
          exact ⟨.inl rfl, by kernel_rfl, by kernel_rfl⟩
      · refine Wc.condF h76 (by kernel_rfl) ?_
        refine Wc.seq ?_
        refine Wc.region [] [] [1, 53] [1] [] ⟨[(1, (.ptr 1 0, [])), (53, (.v (.bool (i51_.gKind == 4)), []))], [(1, .cells [.int .i64 i51_.gKind, .str i51_.gName, .int .i64 i51_.gNum, .sl (List.map GTerm.c i51_.gKids)] [])], []⟩ _ (by kernel_rfl) .nil ?_
        rcases oif h with ⟨h80, h⟩ | ⟨h80, h⟩
        · refine Wc.condT h80 (by kernel_rfl) ?_
          refine Wc.seq ?_
          obtain ⟨f55_, h81, h⟩ := obind h
          rcases oif h with ⟨h82, h⟩ | ⟨h82, h⟩
          · rcases oif h with ⟨h83, h⟩ | ⟨h83, h⟩
            · obtain ⟨f56_, h84, h⟩ := obind h
              refine Wc.region [{}, {}, { r := some (.v (.bool f55_) []) }, { re := some (.bool true) }, {}, {}, {}, {}, { re := some (.bool true) }, {}, {}, { v := some (.int .i64 (i51_.gKids.length : Int)) }, { r := some (.v (.bool f56_) []) }] [] [2] [] [] ⟨[(2, (.v (.bool f56_), []))], [], []⟩ _ (by kernel_rfl) (.cons (cspec_l03Name h81) (.cons (congrArg AV.bool h82) (.cons (congrArg AV.bool h83) (.cons (len_obl GTerm.c i51_.gKids) (.cons (cspec_l01In h84) .nil))))) ?_
              refine Wc.ret ?_
              obtain rfl := Option.some.inj h
              exact ⟨.inl rfl, by kernel_rfl, by kernel_rfl⟩
            · refine Wc.region [{}, {}, { r := some (.v (.bool f55_) []) }, { re := some (.bool true) }, {}, {}, {}, {}, { re := some (.bool false) }] [] [2] [] [] ⟨[(2, (.v (.bool false), []))], [], []⟩ _ (by kernel_rfl) (.cons (cspec_l03Name h81) (.cons (congrArg AV.bool h82) (.cons (congrArg AV.bool h83) .nil))) ?_
              refine Wc.ret ?_
              obtain rfl := Option.some.inj h
              exact ⟨.inl rfl, by kernel_rfl, by kernel_rfl⟩
          · refine Wc.region [{}, {}, { r := some (.v (.bool f55_) []) }, { re := some (.bool false) }] [] [2] [] [] ⟨[(2, (.v (.bool false), []))], [], []⟩ _ (by kernel_rfl) (.cons (cspec_l03Name h81) (.cons (congrArg AV.bool h82) .nil)) ?_
            refine Wc.ret ?_
            obtain rfl := Option.some.inj h
            exact ⟨.inl rfl, by kernel_rfl, by kernel_rfl⟩
        · refine Wc.condF h80 (by kernel_rfl) ?_
          refine Wc.fix (st' := ⟨[], [], []⟩) [] [] [] [] (by kernel_rfl) ?_
          refine Wc.skip ?_
          refine Wc.seq ?_
          refine Wc.region [] [] [2] [] [] ⟨[(2, (.v (.bool false), []))], [], []⟩ _ (by kernel_rfl) .nil ?_
          refine Wc.ret ?_
          obtain rfl := Option.some.inj h
          exact ⟨.inl rfl, by kernel_rfl, by kernel_rfl⟩

def pspec_l13Read_read_L2 (k : Nat) (rspec_l13Read_read : GL13Read → Int → Int → Option (GL13Read × GTerm)) (c77_ : GCell) (b74_ : Int) : Nat → Int → GTerm → GL13Read → Option (Out (GL13Read × GTerm) (GTerm × GL13Read))
  | 0, _, _, _ => none
  | m + 1, b79_, i80_, j81_ =>
    if (decide (b79_ < (c77_.gKids.length : Int))) = true then
      if (!j81_.gBad) = true then
        (at' c77_.gKids b79_).bind fun b84_ =>
        (rspec_l13Read_read j81_ b84_ (wr.i64 (b74_ + 1))).bind fun l85_ =>
        if i80_.gKids.length + [GTerm.mk l85_.2.gKind l85_.2.gName l85_.2.gNum l85_.2.gKids].length ≤ 1073741824 then
          pspec_l13Read_read_L2 k rspec_l13Read_read c77_ b74_ m (wr.i64 (b79_ + 1)) (GTerm.mk i80_.gKind i80_.gName i80_.gNum (i80_.gKids ++ [GTerm.mk l85_.2.gKind l85_.2.gName l85_.2.gNum l85_.2.gKids])) (GL13Read.mk l85_.1.gCells l85_.1.gLeft l85_.1.gBad)
        else none
      else
        some (.done (i80_, j81_))
    else
      some (.done (i80_, j81_))
def pspec_l13Read_read_J1 (k : Nat) (rspec_l13Read_read : GL13Read → Int → Int → Option (GL13Read × GTerm)) (j72_ : GL13Read) (b75_ : Int) (b74_ : Int) (f76_ : Bool) : Option (GL13Read × GTerm) :=
  if f76_ = true then
    some (GL13Read.mk j72_.gCells (wr.i64 (j72_.gLeft - 1)) true, GTerm.mk 0 (bs []) 0 [])
  else
    (at' j72_.gCells b75_).bind fun c77_ =>
    (at' [0, 1, 2, 3, 4] c77_.gKind).bind fun b78_ =>
    (pspec_l13Read_read_L2 k rspec_l13Read_read c77_ b74_ k 0 (GTerm.mk b78_ c77_.gName c77_.gNum []) (GL13Read.mk j72_.gCells (wr.i64 (j72_.gLeft - 1)) j72_.gBad)).bind fun out2 => match out2 with
    | .ret r => some r
    | .done (i82_, j83_) =>
      (pspec_l03One k i82_).bind fun f86_ =>
      if (!f86_) = true then
        if (!j83_.gBad) = true then
          some (GL13Read.mk j83_.gCells j83_.gLeft true, i82_)
        else
          some (j83_, i82_)
      else
        some (j83_, i82_)
mutual
/-- (*spec.l13Read).read -/
def pspec_l13Read_read : Nat → GL13Read → Int → Int → Option (GL13Read × GTerm)
  | 0, _, _, _ => none
  | k + 1, j72_, b73_, b74_ =>
    (pspec_l13Follow k j72_.gCells b73_).bind fun b75_ =>
    if j72_.gBad = true then
      pspec_l13Read_read_J1 k (pspec_l13Read_read k) j72_ b75_ b74_ true
    else
      if (decide (b75_ < 0)) = true then
        pspec_l13Read_read_J1 k (pspec_l13Read_read k) j72_ b75_ b74_ true
      else
        if (decide ((wr.i64 (j72_.gLeft - 1)) < 0)) = true then
          pspec_l13Read_read_J1 k (pspec_l13Read_read k) j72_ b75_ b74_ true
        else
          pspec_l13Read_read_J1 k (pspec_l13Read_read k) j72_ b75_ b74_ (decide (b74_ > 40))
end
set_option maxHeartbeats 4000000 in
theorem all_pspec_l13Read_read : ∀ k : Nat, (∀ {j72_ : GL13Read} {b73_ : Int} {b74_ : Int} {r : GL13Read × GTerm}, pspec_l13Read_read k j72_ b73_ b74_ = some r → FnO Try.prog 112 [.p [.sl (List.map GCell.c j72_.gCells), .int .i64 j72_.gLeft, .bool j72_.gBad] [], .v (.int .i64 b73_) [], .v (.int .i64 b74_) []] (.v (.agg [.int .i64 r.2.gKind, .str r.2.gName, .int .i64 r.2.gNum, .sl (List.map GTerm.c r.2.gKids)]) [(3, .app 42)]) [(0, .p [.sl (List.map GCell.c r.1.gCells), .int .i64 r.1.gLeft, .bool r.1.gBad] [])]) := by
  intro k
  induction k with
  | zero =>
    · intro j72_ b73_ b74_ r h
      exact (onone (by rw [pspec_l13Read_read] at h; exact h)).elim
  | succ k ih =>
    have ih_pspec_l13Read_read := @ih
    · intro j72_ b73_ b74_ r h
      rw [pspec_l13Read_read] at h
      refine FnO.of Try.func112 (rfl : Try.f112.body = some _) (Nat.le_of_ble_eq_true (by kernel_rfl)) (Nat.le_of_ble_eq_true (by kernel_rfl)) ?_
      intro w0 X0 Fin pv0 pb
      refine Wc.seq ?_
      refine Wc.region [] [] [0, 1, 2, 6] [6, 1000000] [] ⟨[(0, (.ptr 1000000 0, [])), (1, (.v (.int .i64 b73_), [])), (2, (.v (.int .i64 b74_), [])), (6, (.ptr 6 0, []))], [(6, .cells [.int .i64 0, .str (bs []), .int .i64 0, .sl (List.map GTerm.c [])] [(3, .app 42)]), (1000000, .cells [.sl (List.map GCell.c j72_.gCells), .int .i64 j72_.gLeft, .bool j72_.gBad] [])], []⟩ _ (by kernel_rfl) .nil ?_
      refine Wc.seq ?_
      obtain ⟨b75_, h101, h⟩ := obind h
      refine Wc.region [{}, {}, {}, {}, {}, { r := some (.v (.int .i64 b75_) []) }] [] [0, 1, 2, 6] [6, 1000000] [] ⟨[(0, (.ptr 1000000 0, [])), (1, (.v (.int .i64 b75_), [])), (2, (.v (.int .i64 b74_), [])), (6, (.ptr 6 0, []))], [(6, .cells [.int .i64 0, .str (bs []), .int .i64 0, .sl (List.map GTerm.c [])] [(3, .app 42)]), (1000000, .cells [.sl (List.map GCell.c j72_.gCells), .int .i64 j72_.gLeft, .bool j72_.gBad] [])], []⟩ _ (by kernel_rfl) (.cons (cspec_l13Follow h101) .nil) ?_
      refine Wc.seq ?_
      refine Wc.region [] [] [0, 1, 2, 6] [6, 1000000] [] ⟨[(0, (.ptr 1000000 0, [])), (1, (.v (.int .i64 b75_), [])), (2, (.v (.int .i64 b74_), [])), (6, (.ptr 6 0, []))], [(6, .cells [.int .i64 0, .str (bs []), .int .i64 0, .sl (List.map GTerm.c [])] [(3, .app 42)]), (1000000, .cells [.sl (List.map GCell.c j72_.gCells), .int .i64 (wr.i64 (j72_.gLeft - 1)), .bool j72_.gBad] [])], []⟩ _ (by kernel_rfl) .nil ?_
      refine Wc.seq ?_
      refine Wc.seqJ (fun st => ∃ (f76_ : Bool), st = ⟨[(0, (.ptr 1000000 0, [])), (1, (.v (.int .i64 b75_), [])), (2, (.v (.int .i64 b74_), [])), (6, (.ptr 6 0, [])), (42, (.v (.bool f76_), []))], [(6, .cells [.int .i64 0, .str (bs []), .int .i64 0, .sl (List.map GTerm.c [])] [(3, .app 42)]), (1000000, .cells [.sl (List.map GCell.c j72_.gCells), .int .i64 (wr.i64 (j72_.gLeft - 1)), .bool j72_.gBad] [])], []⟩ ∧ pspec_l13Read_read_J1 k (pspec_l13Read_read k) j72_ b75_ b74_ f76_ = some r) ?_ ?_
      · rcases oif h with ⟨h114, h⟩ | ⟨h114, h⟩
        · refine Wc.region [{}, {}, {}, {}, { re := some (.bool true) }] [] [0, 1, 2, 6, 42] [6, 1000000] [] ⟨[(0, (.ptr 1000000 0, [])), (1, (.v (.int .i64 b75_), [])), (2, (.v (.int .i64 b74_), [])), (6, (.ptr 6 0, [])), (42, (.v (.bool true), []))], [(6, .cells [.int .i64 0, .str (bs []), .int .i64 0, .sl (List.map GTerm.c [])] [(3, .app 42)]), (1000000, .cells [.sl (List.map GCell.c j72_.gCells), .int .i64 (wr.i64 (j72_.gLeft - 1)), .bool j72_.gBad] [])], []⟩ _ (by kernel_rfl) (.cons (congrArg AV.bool h114) .nil) ?_
          exact ⟨_, rfl, h⟩
        · rcases oif h with ⟨h115, h⟩ | ⟨h115, h⟩
          · refine Wc.region [{}, {}, {}, {}, { re := some (.bool false) }, {}, {}, {}, { re := some (.bool true) }] [] [0, 1, 2, 6, 42] [6, 1000000] [] ⟨[(0, (.ptr 1000000 0, [])), (1, (.v (.int .i64 b75_), [])), (2, (.v (.int .i64 b74_), [])), (6, (.ptr 6 0, [])), (42, (.v (.bool true), []))], [(6, .cells [.int .i64 0, .str (bs []), .int .i64 0, .sl (List.map GTerm.c [])] [(3, .app 42)]), (1000000, .cells [.sl (List.map GCell.c j72_.gCells), .int .i64 (wr.i64 (j72_.gLeft - 1)), .bool j72_.gBad] [])], []⟩ _ (by kernel_rfl) (.cons (congrArg AV.bool h114) (.cons (congrArg AV.bool h115) .nil)) ?_
            exact ⟨_, rfl, h⟩
          · rcases oif h with ⟨h116, h⟩ | ⟨h116, h⟩
            · refine Wc.region [{}, {}, {}, {}, { re := some (.bool false) }, {}, {}, {}, { re := some (.bool false) }, {}, {}, {}, {}, {}, {}, { re := some (.bool true) }] [] [0, 1, 2, 6, 42] [6, 1000000] [] ⟨[(0, (.ptr 1000000 0, [])), (1, (.v (.int .i64 b75_), [])), (2, (.v (.int .i64 b74_), [])), (6, (.ptr 6 0, [])), (42, (.v (.bool true), []))], [(6, .cells [.int .i64 0, .str (bs []), .int .i64 0, .sl (List.map GTerm.c [])] [(3, .app 42)]), (1000000, .cells [.sl (List.map GCell.c j72_.gCells), .int .i64 (wr.i64 (j72_.gLeft - 1)), .bool j72_.gBad] [])], []⟩ _ (by kernel_rfl) (.cons (congrArg AV.bool h114) (.cons (congrArg AV.bool h115) (.cons (congrArg AV.bool h116) .nil))) ?_
              exact ⟨_, rfl, h⟩
            · refine Wc.region [{}, {}, {}, {}, { re := some (.bool false) }, {}, {}, {}, { re := some (.bool false) }, {}, {}, {}, {}, {}, {}, { re := some (.bool false) }] [] [0, 1, 2, 6, 42] [6, 1000000] [] ⟨[(0, (.ptr 1000000 0, [])), (1, (.v (.int .i64 b75_), [])), (2, (.v (.int .i64 b74_), [])), (6, (.ptr 6 0, [])), (42, (.v (.bool (decide (b74_ > 40))), []))], [(6, .cells [.int .i64 0, .str (bs []), .int .i64 0, .sl (List.map GTerm.c [])] [(3, .app 42)]), (1000000, .cells [.sl (List.map GCell.c j72_.gCells), .int .i64 (wr.i64 (j72_.gLeft - 1)), .bool j72_.gBad] [])], []⟩ _ (by kernel_rfl) (.cons (congrArg AV.bool h114) (.cons (congrArg AV.bool h115) (.cons (congrArg AV.bool h116) .nil))) ?_
              exact ⟨_, rfl, h⟩
      · rintro st ⟨f76_, rfl, h⟩
        rcases oif h with ⟨h102, h⟩ | ⟨h102, h⟩
        · refine Wc.condT h102 (by kernel_rfl) ?_
          refine Wc.seq ?_
          refine Wc.region [] [] [6] [6, 1000000] [] ⟨[(6, (.ptr 6 0, []))], [(6, .cells [.int .i64 0, .str (bs []), .int .i64 0, .sl (List.map GTerm.c [])] [(3, .app 42)]), (1000000, .cells [.sl (List.map GCell.c j72_.gCells), .int .i64 (wr.i64 (j72_.gLeft - 1)), .bool true] [])], []⟩ _ (by kernel_rfl) .nil ?_
          refine Wc.seq ?_
          refine Wc.region [{}, { tk := [46] }] [] [6] [6, 1000000] [] ⟨[(6, (.ptr 6 0, []))], [(6, .cells [.int .i64 0, .str (bs []), .int .i64 0, .sl (List.map GTerm.c [])] [(3, .app 42)]), (1000000, .cells [.sl (List.map GCell.c j72_.gCells), .int .i64 (wr.i64 (j72_.gLeft - 1)), .bool true] [])], []⟩ _ (by kernel_rfl) .nil ?_
          refine Wc.ret ?_
          obtain rfl := Option.some.inj h
          exact ⟨.inl rfl, by kernel_rfl, by kernel_rfl⟩
        · refine Wc.condF h102 (by kernel_rfl) ?_
          refine Wc.fix (st' := ⟨[(0, (.ptr 1000000 0, [])), (1, (.v (.int .i64 b75_), [])), (2, (.v (.int .i64 b74_), [])), (6, (.ptr 6 0, []))], [(6, .cells [.int .i64 0, .str (bs []), .int .i64 0, .sl (List.map GTerm.c [])] [(3, .app 42)]), (1000000, .cells [.sl (List.map GCell.c j72_.gCells), .int .i64 (wr.i64 (j72_.gLeft - 1)), .bool j72_.gBad] [])], []⟩) [] [0, 1, 2, 6] [6, 1000000] [] (by kernel_rfl) ?_
          refine Wc.skip ?_
          refine Wc.seq ?_
          obtain ⟨c77_, h103, h⟩ := obind h
          refine Wc.region [{}, {}, {}, {}, {}, { v := some (.vptr [.int .i64 c77_.gKind, .str c77_.gName, .int .i64 c77_.gNum, .int .i64 c77_.gTo, .sl (List.map cI.i64 c77_.gKids)]) }] [] [0, 2, 6, 7] [6, 7, 1000000] [] ⟨[(0, (.ptr 1000000 0, [])), (2, (.v (.int .i64 b74_), [])), (6, (.ptr 6 0, [])), (7, (.ptr 7 0, []))], [(6, .cells [.int .i64 0, .str (bs []), .int .i64 0, .sl (List.map GTerm.c [])] [(3, .app 42)]), (7, .cells [.int .i64 c77_.gKind, .str c77_.gName, .int .i64 c77_.gNum, .int .i64 c77_.gTo, .sl (List.map cI.i64 c77_.gKids)] []), (1000000, .cells [.sl (List.map GCell.c j72_.gCells), .int .i64 (wr.i64 (j72_.gLeft - 1)), .bool j72_.gBad] [])], []⟩ _ (by kernel_rfl) (.cons (at_obl (c := GCell.c) (GCell.c_eq c77_) GCell.c_len h103) (.cons (len_ok 5 [.int .i64 c77_.gKind, .str c77_.gName, .int .i64 c77_.gNum, .int .i64 c77_.gTo, .sl (List.map cI.i64 c77_.gKids)]) .nil)) ?_
          refine Wc.seq ?_
          obtain ⟨b78_, h104, h⟩ := obind h
          refine Wc.draw hmix [{ c := some (List.map cI.i64 [0, 1, 2, 3, 4]) }, {}, {}, { v := some (.vptr [.int .i64 b78_]) }, {}, {}, {}, {}, {}, { c := some (List.map GTerm.c []) }, { tk := [63] }, {}, { tk := [64] }] [] [0, 2, 6, 7, 8] [6, 7, 8, 1000000] [] ⟨[(0, (.ptr 1000000 0, [])), (2, (.v (.int .i64 b74_), [])), (6, (.ptr 6 0, [])), (7, (.ptr 7 0, [])), (8, (.ptr 8 0, []))], [(6, .cells [.int .i64 0, .str (bs []), .int .i64 0, .sl (List.map GTerm.c [])] [(3, .app 42)]), (7, .cells [.int .i64 c77_.gKind, .str c77_.gName, .int .i64 c77_.gNum, .int .i64 c77_.gTo, .sl (List.map cI.i64 c77_.gKids)] []), (8, .cells [.int .i64 b78_, .str c77_.gName, .int .i64 c77_.gNum, .sl (List.map GTerm.c [])] [(3, .app 42)]), (1000000, .cells [.sl (List.map GCell.c j72_.gCells), .int .i64 (wr.i64 (j72_.gLeft - 1)), .bool j72_.gBad] [])], []⟩ _ (by kernel_rfl) (fun X => by kernel_rfl) (.cons (cl_cons (c := cI.i64) (x := 0) rfl (cl_cons (c := cI.i64) (x := 1) rfl (cl_cons (c := cI.i64) (x := 2) rfl (cl_cons (c := cI.i64) (x := 3) rfl (cl_cons (c := cI.i64) (x := 4) rfl (cl_nil cI.i64)))))) (.cons (at_obl (c := cI.i64) rfl cI.i64_len h104) (.cons (len_ok 1 [.int .i64 b78_]) (.cons (cl_nil GTerm.c) .nil)))) ?_
          refine Wc.seq ?_
          refine Wc.seq ?_
          refine Wc.region [] [] [0, 2, 6, 7, 8, 9] [6, 7, 8, 1000000] [] ⟨[(0, (.ptr 1000000 0, [])), (2, (.v (.int .i64 b74_), [])), (6, (.ptr 6 0, [])), (7, (.ptr 7 0, [])), (8, (.ptr 8 0, [])), (9, (.v (.int .i64 0), []))], [(6, .cells [.int .i64 0, .str (bs []), .int .i64 0, .sl (List.map GTerm.c [])] [(3, .app 42)]), (7, .cells [.int .i64 c77_.gKind, .str c77_.gName, .int .i64 c77_.gNum, .int .i64 c77_.gTo, .sl (List.map cI.i64 c77_.gKids)] []), (8, .cells [.int .i64 b78_, .str c77_.gName, .int .i64 c77_.gNum, .sl (List.map GTerm.c [])] [(3, .app 42)]), (1000000, .cells [.sl (List.map GCell.c j72_.gCells), .int .i64 (wr.i64 (j72_.gLeft - 1)), .bool j72_.gBad] [])], []⟩ _ (by kernel_rfl) .nil ?_
          obtain ⟨out2, h105, h⟩ := obind h
          refine Wc.lastJ (fun st => ∃ (i82_ : GTerm) (j83_ : GL13Read), out2 = .done (i82_, j83_) ∧ st = ⟨[(0, (.ptr 1000000 0, [])), (6, (.ptr 6 0, [])), (8, (.ptr 8 0, []))], [(6, .cells [.int .i64 0, .str (bs []), .int .i64 0, .sl (List.map GTerm.c [])] [(3, .app 42)]), (8, .cells [.int .i64 i82_.gKind, .str i82_.gName, .int .i64 i82_.gNum, .sl (List.map GTerm.c i82_.gKids)] [(3, .app 42)]), (1000000, .cells [.sl (List.map GCell.c j83_.gCells), .int .i64 j83_.gLeft, .bool j83_.gBad] [])], []⟩) ?_ ?_
          · refine Wc.block ?_
            refine Wc.loop (fun m st => ∃ (b79_ : Int) (i80_ : GTerm) (j81_ : GL13Read), st = ⟨[(0, (.ptr 1000000 0, [])), (2, (.v (.int .i64 b74_), [])), (6, (.ptr 6 0, [])), (7, (.ptr 7 0, [])), (8, (.ptr 8 0, [])), (9, (.v (.int .i64 b79_), []))], [(6, .cells [.int .i64 0, .str (bs []), .int .i64 0, .sl (List.map GTerm.c [])] [(3, .app 42)]), (7, .cells [.int .i64 c77_.gKind, .str c77_.gName, .int .i64 c77_.gNum, .int .i64 c77_.gTo, .sl (List.map cI.i64 c77_.gKids)] []), (8, .cells [.int .i64 i80_.gKind, .str i80_.gName, .int .i64 i80_.gNum, .sl (List.map GTerm.c i80_.gKids)] [(3, .app 42)]), (1000000, .cells [.sl (List.map GCell.c j81_.gCells), .int .i64 j81_.gLeft, .bool j81_.gBad] [])], []⟩ ∧ pspec_l13Read_read_L2 k (pspec_l13Read_read k) c77_ b74_ m b79_ i80_ j81_ = some out2) ?_ k ⟨_, _, _, rfl, h105⟩
            rintro m st ⟨b79_, i80_, j81_, rfl, h105⟩
            cases m with
            | zero => exact (onone h105).elim
            | succ m =>
              refine Wc.seq ?_
              refine Wc.seq ?_
              rcases oif h105 with ⟨h106, h105⟩ | ⟨h106, h105⟩
              · refine Wc.region [{}, {}, {}, { v := some (.int .i64 (c77_.gKids.length : Int)) }, {}, { re := some (.bool true) }] [] [0, 2, 6, 7, 8, 9, 76] [6, 7, 8, 1000000] [] ⟨[(0, (.ptr 1000000 0, [])), (2, (.v (.int .i64 b74_), [])), (6, (.ptr 6 0, [])), (7, (.ptr 7 0, [])), (8, (.ptr 8 0, [])), (9, (.v (.int .i64 b79_), [])), (76, (.v (.bool (!j81_.gBad)), []))], [(6, .cells [.int .i64 0, .str (bs []), .int .i64 0, .sl (List.map GTerm.c [])] [(3, .app 42)]), (7, .cells [.int .i64 c77_.gKind, .str c77_.gName, .int .i64 c77_.gNum, .int .i64 c77_.gTo, .sl (List.map cI.i64 c77_.gKids)] []), (8, .cells [.int .i64 i80_.gKind, .str i80_.gName, .int .i64 i80_.gNum, .sl (List.map GTerm.c i80_.gKids)] [(3, .app 42)]), (1000000, .cells [.sl (List.map GCell.c j81_.gCells), .int .i64 j81_.gLeft, .bool j81_.gBad] [])], []⟩ _ (by kernel_rfl) (.cons (len_obl cI.i64 c77_.gKids) (.cons (congrArg AV.bool h106) .nil)) ?_
                rcases oif h105 with ⟨h107, h105⟩ | ⟨h107, h105⟩
                · refine Wc.condT h107 (by kernel_rfl) ?_
                  refine Wc.fix (st' := ⟨[(0, (.ptr 1000000 0, [])), (2, (.v (.int .i64 b74_), [])), (6, (.ptr 6 0, [])), (7, (.ptr 7 0, [])), (8, (.ptr 8 0, [])), (9, (.v (.int .i64 b79_), []))], [(6, .cells [.int .i64 0, .str (bs []), .int .i64 0, .sl (List.map GTerm.c [])] [(3, .app 42)]), (7, .cells [.int .i64 c77_.gKind, .str c77_.gName, .int .i64 c77_.gNum, .int .i64 c77_.gTo, .sl (List.map cI.i64 c77_.gKids)] []), (8, .cells [.int .i64 i80_.gKind, .str i80_.gName, .int .i64 i80_.gNum, .sl (List.map GTerm.c i80_.gKids)] [(3, .app 42)]), (1000000, .cells [.sl (List.map GCell.c j81_.gCells), .int .i64 j81_.gLeft, .bool j81_.gBad] [])], []⟩) [] [0, 2, 6, 7, 8, 9] [6, 7, 8, 1000000] [] (by kernel_rfl) ?_
                  refine Wc.skip ?_
                  refine Wc.seq ?_
                  refine Wc.block ?_
                  obtain ⟨b84_, h108, h105⟩ := obind h105
                  obtain ⟨l85_, h109, h105⟩ := obind h105
                  obtain ⟨h110, h105⟩ := oguard h105
                  refine Wc.draw hmix [{}, { md := 1 }, {}, {}, {}, {}, { v := some (.vptr [.int .i64 b84_]) }, {}, {}, {}, { r := some (.v (.agg [.int .i64 l85_.2.gKind, .str l85_.2.gName, .int .i64 l85_.2.gNum, .sl (List.map GTerm.c l85_.2.gKids)]) [(3, .app 42)]), outs := [(0, .p [.sl (List.map GCell.c l85_.1.gCells), .int .i64 l85_.1.gLeft, .bool l85_.1.gBad] [])] }, { c := some (List.map GTerm.c [GTerm.mk l85_.2.gKind l85_.2.gName l85_.2.gNum l85_.2.gKids]) }, { c := some (List.map GTerm.c (i80_.gKids ++ [GTerm.mk l85_.2.gKind l85_.2.gName l85_.2.gNum l85_.2.gKids])), tk := [80] }, {}, { tk := [91] }] [] [0, 2, 6, 7, 8, 9] [6, 7, 8, 1000000] [] ⟨[(0, (.ptr 1000000 0, [])), (2, (.v (.int .i64 b74_), [])), (6, (.ptr 6 0, [])), (7, (.ptr 7 0, [])), (8, (.ptr 8 0, [])), (9, (.v (.int .i64 b79_), []))], [(6, .cells [.int .i64 0, .str (bs []), .int .i64 0, .sl (List.map GTerm.c [])] [(3, .app 42)]), (7, .cells [.int .i64 c77_.gKind, .str c77_.gName, .int .i64 c77_.gNum, .int .i64 c77_.gTo, .sl (List.map cI.i64 c77_.gKids)] []), (8, .cells [.int .i64 i80_.gKind, .str i80_.gName, .int .i64 i80_.gNum, .sl (List.map GTerm.c (i80_.gKids ++ [GTerm.mk l85_.2.gKind l85_.2.gName l85_.2.gNum l85_.2.gKids]))] [(3, .app 42)]), (1000000, .cells [.sl (List.map GCell.c l85_.1.gCells), .int .i64 l85_.1.gLeft, .bool l85_.1.gBad] [])], []⟩ _ (by kernel_rfl) (fun X => by kernel_rfl) (.cons (at_obl (c := cI.i64) rfl cI.i64_len h108) (.cons (len_ok 1 [.int .i64 b84_]) (.cons (ih_pspec_l13Read_read h109) (.cons (cl_cons (c := GTerm.c) (x := GTerm.mk l85_.2.gKind l85_.2.gName l85_.2.gNum l85_.2.gKids) (GTerm.c_eq (GTerm.mk l85_.2.gKind l85_.2.gName l85_.2.gNum l85_.2.gKids)) (cl_nil GTerm.c)) (.cons (app_re2 GTerm.c i80_.gKids [GTerm.mk l85_.2.gKind l85_.2.gName l85_.2.gNum l85_.2.gKids]) (.cons (app_leaf (c := GTerm.c) (ys := [GTerm.mk l85_.2.gKind l85_.2.gName l85_.2.gNum l85_.2.gKids]) GTerm.c_leaf) (.cons (app_obl2 (c := GTerm.c) (xs := i80_.gKids) (ys := [GTerm.mk l85_.2.gKind l85_.2.gName l85_.2.gNum l85_.2.gKids]) GTerm.c_len h110) .nil))))))) ?_
                  refine Wc.region [] [] [0, 2, 6, 7, 8, 9] [6, 7, 8, 1000000] [] ⟨[(0, (.ptr 1000000 0, [])), (2, (.v (.int .i64 b74_), [])), (6, (.ptr 6 0, [])), (7, (.ptr 7 0, [])), (8, (.ptr 8 0, [])), (9, (.v (.int .i64 (wr.i64 (b79_ + 1))), []))], [(6, .cells [.int .i64 0, .str (bs []), .int .i64 0, .sl (List.map GTerm.c [])] [(3, .app 42)]), (7, .cells [.int .i64 c77_.gKind, .str c77_.gName, .int .i64 c77_.gNum, .int .i64 c77_.gTo, .sl (List.map cI.i64 c77_.gKids)] []), (8, .cells [.int .i64 i80_.gKind, .str i80_.gName, .int .i64 i80_.gNum, .sl (List.map GTerm.c (i80_.gKids ++ [GTerm.mk l85_.2.gKind l85_.2.gName l85_.2.gNum l85_.2.gKids]))] [(3, .app 42)]), (1000000, .cells [.sl (List.map GCell.c l85_.1.gCells), .int .i64 l85_.1.gLeft, .bool l85_.1.gBad] [])], []⟩ _ (by kernel_rfl) .nil ?_
                  exact ⟨_, Nat.lt_succ_self _, _, _, _, rfl, h105⟩
                · refine Wc.condF h107 (by kernel_rfl) ?_
                  refine Wc.fix (st' := ⟨[(0, (.ptr 1000000 0, [])), (6, (.ptr 6 0, [])), (8, (.ptr 8 0, []))], [(6, .cells [.int .i64 0, .str (bs []), .int .i64 0, .sl (List.map GTerm.c [])] [(3, .app 42)]), (8, .cells [.int .i64 i80_.gKind, .str i80_.gName, .int .i64 i80_.gNum, .sl (List.map GTerm.c i80_.gKids)] [(3, .app 42)]), (1000000, .cells [.sl (List.map GCell.c j81_.gCells), .int .i64 j81_.gLeft, .bool j81_.gBad] [])], []⟩) [] [0, 6, 8] [6, 8, 1000000] [] (by kernel_rfl) ?_
                  refine Wc.exit ?_
                  obtain rfl := Option.some.inj h105
                  exact ⟨_, _, rfl, rfl⟩
              · refine Wc.region [{}, {}, {}, { v := some (.int .i64 (c77_.gKids.length : Int)) }, {}, { re := some (.bool false) }] [] [0, 2, 6, 7, 8, 9, 76] [6, 7, 8, 1000000] [] ⟨[(0, (.ptr 1000000 0, [])), (2, (.v (.int .i64 b74_), [])), (6, (.ptr 6 0, [])), (7, (.ptr 7 0, [])), (8, (.ptr 8 0, [])), (9, (.v (.int .i64 b79_), [])), (76, (.v (.bool false), []))], [(6, .cells [.int .i64 0, .str (bs []), .int .i64 0, .sl (List.map GTerm.c [])] [(3, .app 42)]), (7, .cells [.int .i64 c77_.gKind, .str c77_.gName, .int .i64 c77_.gNum, .int .i64 c77_.gTo, .sl (List.map cI.i64 c77_.gKids)] []), (8, .cells [.int .i64 i80_.gKind, .str i80_.gName, .int .i64 i80_.gNum, .sl (List.map GTerm.c i80_.gKids)] [(3, .app 42)]), (1000000, .cells [.sl (List.map GCell.c j81_.gCells), .int .i64 j81_.gLeft, .bool j81_.gBad] [])], []⟩ _ (by kernel_rfl) (.cons (len_obl cI.i64 c77_.gKids) (.cons (congrArg AV.bool h106) .nil)) ?_
                refine Wc.condF rfl (by kernel_rfl) ?_
                refine Wc.fix (st' := ⟨[(0, (.ptr 1000000 0, [])), (6, (.ptr 6 0, [])), (8, (.ptr 8 0, []))], [(6, .cells [.int .i64 0, .str (bs []), .int .i64 0, .sl (List.map GTerm.c [])] [(3, .app 42)]), (8, .cells [.int .i64 i80_.gKind, .str i80_.gName, .int .i64 i80_.gNum, .sl (List.map GTerm.c i80_.gKids)] [(3, .app 42)]), (1000000, .cells [.sl (List.map GCell.c j81_.gCells), .int .i64 j81_.gLeft, .bool j81_.gBad] [])], []⟩) [] [0, 6, 8] [6, 8, 1000000] [] (by kernel_rfl) ?_
                refine Wc.exit ?_
                obtain rfl := Option.some.inj h105
                exact ⟨_, _, rfl, rfl⟩
          · rintro st ⟨i82_, j83_, rfl, rfl⟩
            refine Wc.seq ?_
            refine Wc.seq ?_
            obtain ⟨f86_, h111, h⟩ := obind h
            rcases oif h with ⟨h112, h⟩ | ⟨h112, h⟩
            · refine Wc.region [{}, { r := some (.v (.bool f86_) []) }, {}, { re := some (.bool true) }] [] [0, 6, 8, 102] [6, 8, 1000000] [] ⟨[(0, (.ptr 1000000 0, [])), (6, (.ptr 6 0, [])), (8, (.ptr 8 0, [])), (102, (.v (.bool (!j83_.gBad)), []))], [(6, .cells [.int .i64 0, .str (bs []), .int .i64 0, .sl (List.map GTerm.c [])] [(3, .app 42)]), (8, .cells [.int .i64 i82_.gKind, .str i82_.gName, .int .i64 i82_.gNum, .sl (List.map GTerm.c i82_.gKids)] [(3, .app 42)]), (1000000, .cells [.sl (List.map GCell.c j83_.gCells), .int .i64 j83_.gLeft, .bool j83_.gBad] [])], []⟩ _ (by kernel_rfl) (.cons (cspec_l03One h111) (.cons (congrArg AV.bool h112) .nil)) ?_
              rcases oif h with ⟨h113, h⟩ | ⟨h113, h⟩
              · refine Wc.condT h113 (by kernel_rfl) ?_
                refine Wc.region [] [] [6, 8] [6, 8, 1000000] [] ⟨[(6, (.ptr 6 0, [])), (8, (.ptr 8 0, []))], [(6, .cells [.int .i64 0, .str (bs []), .int .i64 0, .sl (List.map GTerm.c [])] [(3, .app 42)]), (8, .cells [.int .i64 i82_.gKind, .str i82_.gName, .int .i64 i82_.gNum, .sl (List.map GTerm.c i82_.gKids)] [(3, .app 42)]), (1000000, .cells [.sl (List.map GCell.c j83_.gCells), .int .i64 j83_.gLeft, .bool true] [])], []⟩ _ (by kernel_rfl) .nil ?_
                refine Wc.seq ?_
                refine Wc.region [{ md := 1 }, { tk := [106] }] [] [6] [6, 1000000] [] ⟨[(6, (.ptr 6 0, []))], [(6, .cells [.int .i64 i82_.gKind, .str i82_.gName, .int .i64 i82_.gNum, .sl (List.map GTerm.c i82_.gKids)] [(3, .app 42)]), (1000000, .cells [.sl (List.map GCell.c j83_.gCells), .int .i64 j83_.gLeft, .bool true] [])], []⟩ _ (by kernel_rfl) .nil ?_
                refine Wc.ret ?_
                obtain rfl := Option.some.inj h
                exact ⟨.inl rfl, by kernel_rfl, by kernel_rfl⟩
              · refine Wc.condF h113 (by kernel_rfl) ?_
                refine Wc.fix (st' := ⟨[(6, (.ptr 6 0, [])), (8, (.ptr 8 0, []))], [(6, .cells [.int .i64 0, .str (bs []), .int .i64 0, .sl (List.map GTerm.c [])] [(3, .app 42)]), (8, .cells [.int .i64 i82_.gKind, .str i82_.gName, .int .i64 i82_.gNum, .sl (List.map GTerm.c i82_.gKids)] [(3, .app 42)]), (1000000, .cells [.sl (List.map GCell.c j83_.gCells), .int .i64 j83_.gLeft, .bool j83_.gBad] [])], []⟩) [] [6, 8] [6, 8, 1000000] [] (by kernel_rfl) ?_
                refine Wc.skip ?_
                refine Wc.seq ?_
                refine Wc.region [{ md := 1 }, { tk := [106] }] [] [6] [6, 1000000] [] ⟨[(6, (.ptr 6 0, []))], [(6, .cells [.int .i64 i82_.gKind, .str i82_.gName, .int .i64 i82_.gNum, .sl (List.map GTerm.c i82_.gKids)] [(3, .app 42)]), (1000000, .cells [.sl (List.map GCell.c j83_.gCells), .int .i64 j83_.gLeft, .bool j83_.gBad] [])], []⟩ _ (by kernel_rfl) .nil ?_
                refine Wc.ret ?_
                obtain rfl := Option.some.inj h
                exact ⟨.inl rfl, by kernel_rfl, by kernel_rfl⟩
            · refine Wc.region [{}, { r := some (.v (.bool f86_) []) }, {}, { re := some (.bool false) }] [] [0, 6, 8, 102] [6, 8, 1000000] [] ⟨[(0, (.ptr 1000000 0, [])), (6, (.ptr 6 0, [])), (8, (.ptr 8 0, [])), (102, (.v (.bool false), []))], [(6, .cells [.int .i64 0, .str (bs []), .int .i64 0, .sl (List.map GTerm.c [])] [(3, .app 42)]), (8, .cells [.int .i64 i82_.gKind, .str i82_.gName, .int .i64 i82_.gNum, .sl (List.map GTerm.c i82_.gKids)] [(3, .app 42)]), (1000000, .cells [.sl (List.map GCell.c j83_.gCells), .int .i64 j83_.gLeft, .bool j83_.gBad] [])], []⟩ _ (by kernel_rfl) (.cons (cspec_l03One h111) (.cons (congrArg AV.bool h112) .nil)) ?_
              refine Wc.condF rfl (by kernel_rfl) ?_
              refine Wc.fix (st' := ⟨[(6, (.ptr 6 0, [])), (8, (.ptr 8 0, []))], [(6, .cells [.int .i64 0, .str (bs []), .int .i64 0, .sl (List.map GTerm.c [])] [(3, .app 42)]), (8, .cells [.int .i64 i82_.gKind, .str i82_.gName, .int .i64 i82_.gNum, .sl (List.map GTerm.c i82_.gKids)] [(3, .app 42)]), (1000000, .cells [.sl (List.map GCell.c j83_.gCells), .int .i64 j83_.gLeft, .bool j83_.gBad] [])], []⟩) [] [6, 8] [6, 8, 1000000] [] (by kernel_rfl) ?_
              refine Wc.skip ?_
              refine Wc.seq ?_
              refine Wc.region [{ md := 1 }, { tk := [106] }] [] [6] [6, 1000000] [] ⟨[(6, (.ptr 6 0, []))], [(6, .cells [.int .i64 i82_.gKind, .str i82_.gName, .int .i64 i82_.gNum, .sl (List.map GTerm.c i82_.gKids)] [(3, .app 42)]), (1000000, .cells [.sl (List.map GCell.c j83_.gCells), .int .i64 j83_.gLeft, .bool j83_.gBad] [])], []⟩ _ (by kernel_rfl) .nil ?_
              refine Wc.ret ?_
              obtain rfl := Option.some.inj h
              exact ⟨.inl rfl, by kernel_rfl, by kernel_rfl⟩
theorem cspec_l13Read_read {k : Nat} {j72_ : GL13Read} {b73_ : Int} {b74_ : Int} {r : GL13Read × GTerm} (h : pspec_l13Read_read k j72_ b73_ b74_ = some r) : FnO Try.prog 112 [.p [.sl (List.map GCell.c j72_.gCells), .int .i64 j72_.gLeft, .bool j72_.gBad] [], .v (.int .i64 b73_) [], .v (.int .i64 b74_) []] (.v (.agg [.int .i64 r.2.gKind, .str r.2.gName, .int .i64 r.2.gNum, .sl (List.map GTerm.c r.2.gKids)]) [(3, .app 42)]) [(0, .p [.sl (List.map GCell.c r.1.gCells), .int .i64 r.1.gLeft, .bool r.1.gBad] [])] := (all_pspec_l13Read_read k) h

/-- spec.l13Term -/
def pspec_l13Term (k : Nat) (d90_ : List GCell) (b91_ : Int) : Option (GTerm × Bool) :=
  (pspec_l13Read_read k (GL13Read.mk d90_ 400 false) b91_ 1).bind fun l92_ =>
  if l92_.1.gBad = true then
    some (GTerm.mk 0 (bs []) 0 [], false)
  else
    some (GTerm.mk l92_.2.gKind l92_.2.gName l92_.2.gNum l92_.2.gKids, true)
theorem cspec_l13Term {k : Nat} {d90_ : List GCell} {b91_ : Int} {r : GTerm × Bool} (h : pspec_l13Term k d90_ b91_ = some r) : FnO Try.prog 66 [.v (.sl (List.map GCell.c d90_)) [], .v (.int .i64 b91_) []] (.v (.tup [.agg [.int .i64 r.1.gKind, .str r.1.gName, .int .i64 r.1.gNum, .sl (List.map GTerm.c r.1.gKids)], .bool r.2]) [(3, .app 42)]) [] := by
  refine FnO.of Try.func66 (rfl : Try.f66.body = some _) (Nat.le_of_ble_eq_true (by kernel_rfl)) (Nat.le_of_ble_eq_true (by kernel_rfl)) ?_
  intro w0 X0 Fin pv0 pb
  unfold pspec_l13Term at h
  refine Wc.seq ?_
  refine Wc.region [] [] [0, 1, 4] [4] [] ⟨[(0, (.v (.sl (List.map GCell.c d90_)), [])), (1, (.v (.int .i64 b91_), [])), (4, (.ptr 4 0, []))], [(4, .cells [.int .i64 0, .str (bs []), .int .i64 0, .sl (List.map GTerm.c [])] [(3, .app 42)])], []⟩ _ (by kernel_rfl) .nil ?_
  refine Wc.seq ?_
  refine Wc.region [] [] [1, 4, 6] [4, 10] [] ⟨[(1, (.v (.int .i64 b91_), [])), (4, (.ptr 4 0, [])), (6, (.ptr 10 0, []))], [(4, .cells [.int .i64 0, .str (bs []), .int .i64 0, .sl (List.map GTerm.c [])] [(3, .app 42)]), (10, .cells [.sl (List.map GCell.c d90_), .int .i64 400, .bool false] [])], []⟩ _ (by kernel_rfl) .nil ?_
  refine Wc.seq ?_
  obtain ⟨l92_, h119, h⟩ := obind h
  refine Wc.region [{}, {}, { r := some (.v (.agg [.int .i64 l92_.2.gKind, .str l92_.2.gName, .int .i64 l92_.2.gNum, .sl (List.map GTerm.c l92_.2.gKids)]) [(3, .app 42)]), outs := [(0, .p [.sl (List.map GCell.c l92_.1.gCells), .int .i64 l92_.1.gLeft, .bool l92_.1.gBad] [])] }, {}, { tk := [13] }] [] [4, 6, 7] [4, 7, 10] [] ⟨[(4, (.ptr 4 0, [])), (6, (.ptr 10 0, [])), (7, (.ptr 7 0, []))], [(4, .cells [.int .i64 0, .str (bs []), .int .i64 0, .sl (List.map GTerm.c [])] [(3, .app 42)]), (7, .cells [.int .i64 l92_.2.gKind, .str l92_.2.gName, .int .i64 l92_.2.gNum, .sl (List.map GTerm.c l92_.2.gKids)] [(3, .app 42)]), (10, .cells [.sl (List.map GCell.c l92_.1.gCells), .int .i64 l92_.1.gLeft, .bool l92_.1.gBad] [])], []⟩ _ (by kernel_rfl) (.cons (cspec_l13Read_read h119) .nil) ?_
  refine Wc.seq ?_
  refine Wc.seq ?_
  refine Wc.region [] [] [4, 7, 17] [4, 7] [] ⟨[(4, (.ptr 4 0, [])), (7, (.ptr 7 0, [])), (17, (.v (.bool l92_.1.gBad), []))], [(4, .cells [.int .i64 0, .str (bs []), .int .i64 0, .sl (List.map GTerm.c [])] [(3, .app 42)]), (7, .cells [.int .i64 l92_.2.gKind, .str l92_.2.gName, .int .i64 l92_.2.gNum, .sl (List.map GTerm.c l92_.2.gKids)] [(3, .app 42)])], []⟩ _ (by kernel_rfl) .nil ?_
  rcases oif h with ⟨h120, h⟩ | ⟨h120, h⟩
  · refine Wc.condT h120 (by kernel_rfl) ?_
    refine Wc.seq ?_
    refine Wc.region [{}, { tk := [18] }] [] [4, 5] [4] [] ⟨[(4, (.ptr 4 0, [])), (5, (.v (.bool false), []))], [(4, .cells [.int .i64 0, .str (bs []), .int .i64 0, .sl (List.map GTerm.c [])] [(3, .app 42)])], []⟩ _ (by kernel_rfl) .nil ?_
    refine Wc.ret ?_
    obtain rfl := Option.some.inj h
    exact ⟨.inl rfl, by kernel_rfl, by kernel_rfl⟩
  · refine Wc.condF h120 (by kernel_rfl) ?_
    refine Wc.fix (st' := ⟨[(4, (.ptr 4 0, [])), (7, (.ptr 7 0, []))], [(4, .cells [.int .i64 0, .str (bs []), .int .i64 0, .sl (List.map GTerm.c [])] [(3, .app 42)]), (7, .cells [.int .i64 l92_.2.gKind, .str l92_.2.gName, .int .i64 l92_.2.gNum, .sl (List.map GTerm.c l92_.2.gKids)] [(3, .app 42)])], []⟩) [] [4, 7] [4, 7] [] (by kernel_rfl) ?_
    refine Wc.skip ?_
    refine Wc.seq ?_
    refine Wc.region [{ md := 1 }, { tk := [19] }] [] [4, 5] [4] [] ⟨[(4, (.ptr 4 0, [])), (5, (.v (.bool true), []))], [(4, .cells [.int .i64 l92_.2.gKind, .str l92_.2.gName, .int .i64 l92_.2.gNum, .sl (List.map GTerm.c l92_.2.gKids)] [(3, .app 42)])], []⟩ _ (by kernel_rfl) .nil ?_
    refine Wc.ret ?_
    obtain rfl := Option.some.inj h
    exact ⟨.inl rfl, by kernel_rfl, by kernel_rfl⟩

/-- spec.TermAt -/
def pspec_TermAt (k : Nat) (e97_ : GHeap) (b98_ : Int) : Option (GTerm × Bool) :=
  (pspec_HeapOk k e97_).bind fun f99_ =>
  if (!f99_) = true then
    some (GTerm.mk 0 (bs []) 0 [], false)
  else
    (pspec_l13Term k e97_.gCells b98_).bind fun m100_ =>
    some (GTerm.mk m100_.1.gKind m100_.1.gName m100_.1.gNum m100_.1.gKids, m100_.2)
theorem cspec_TermAt {k : Nat} {e97_ : GHeap} {b98_ : Int} {r : GTerm × Bool} (h : pspec_TermAt k e97_ b98_ = some r) : FnO Try.prog 17 [.v (.agg [.sl (List.map GCell.c e97_.gCells), .sl (List.map cI.i64 e97_.gTrail)]) [], .v (.int .i64 b98_) []] (.v (.tup [.agg [.int .i64 r.1.gKind, .str r.1.gName, .int .i64 r.1.gNum, .sl (List.map GTerm.c r.1.gKids)], .bool r.2]) [(3, .app 42)]) [] := by
  refine FnO.of Try.func17 (rfl : Try.f17.body = some _) (Nat.le_of_ble_eq_true (by kernel_rfl)) (Nat.le_of_ble_eq_true (by kernel_rfl)) ?_
  intro w0 X0 Fin pv0 pb
  unfold pspec_TermAt at h
  refine Wc.seq ?_
  refine Wc.region [] [] [1, 2, 4] [2, 4] [] ⟨[(1, (.v (.int .i64 b98_), [])), (2, (.ptr 2 0, [])), (4, (.ptr 4 0, []))], [(2, .cells [.sl (List.map GCell.c e97_.gCells), .sl (List.map cI.i64 e97_.gTrail)] []), (4, .cells [.int .i64 0, .str (bs []), .int .i64 0, .sl (List.map GTerm.c [])] [(3, .app 42)])], []⟩ _ (by kernel_rfl) .nil ?_
  refine Wc.seq ?_
  refine Wc.seq ?_
  obtain ⟨f99_, h124, h⟩ := obind h
  refine Wc.region [{}, { r := some (.v (.bool f99_) []) }] [] [1, 2, 4, 8] [2, 4] [] ⟨[(1, (.v (.int .i64 b98_), [])), (2, (.ptr 2 0, [])), (4, (.ptr 4 0, [])), (8, (.v (.bool (!f99_)), []))], [(2, .cells [.sl (List.map GCell.c e97_.gCells), .sl (List.map cI.i64 e97_.gTrail)] []), (4, .cells [.int .i64 0, .str (bs []), .int .i64 0, .sl (List.map GTerm.c [])] [(3, .app 42)])], []⟩ _ (by kernel_rfl) (.cons (cspec_HeapOk h124) .nil) ?_
  rcases oif h with ⟨h125, h⟩ | ⟨h125, h⟩
  · refine Wc.condT h125 (by kernel_rfl) ?_
    refine Wc.seq ?_
    refine Wc.region [{}, { tk := [9] }] [] [4, 5] [4] [] ⟨[(4, (.ptr 4 0, [])), (5, (.v (.bool false), []))], [(4, .cells [.int .i64 0, .str (bs []), .int .i64 0, .sl (List.map GTerm.c [])] [(3, .app 42)])], []⟩ _ (by kernel_rfl) .nil ?_
    refine Wc.ret ?_
    obtain rfl := Option.some.inj h
    exact ⟨.inl rfl, by kernel_rfl, by kernel_rfl⟩
  · refine Wc.condF h125 (by kernel_rfl) ?_
    refine Wc.fix (st' := ⟨[(1, (.v (.int .i64 b98_), [])), (2, (.ptr 2 0, [])), (4, (.ptr 4 0, []))], [(2, .cells [.sl (List.map GCell.c e97_.gCells), .sl (List.map cI.i64 e97_.gTrail)] []), (4, .cells [.int .i64 0, .str (bs []), .int .i64 0, .sl (List.map GTerm.c [])] [(3, .app 42)])], []⟩) [] [1, 2, 4] [2, 4] [] (by kernel_rfl) ?_
    refine Wc.skip ?_
    refine Wc.seq ?_
    obtain ⟨m100_, h126, h⟩ := obind h
    refine Wc.region [{}, {}, {}, { r := some (.v (.tup [.agg [.int .i64 m100_.1.gKind, .str m100_.1.gName, .int .i64 m100_.1.gNum, .sl (List.map GTerm.c m100_.1.gKids)], .bool m100_.2]) [(3, .app 42)]) }, { tk := [13] }, {}, { tk := [14] }] [] [4, 5] [4] [] ⟨[(4, (.ptr 4 0, [])), (5, (.v (.bool m100_.2), []))], [(4, .cells [.int .i64 m100_.1.gKind, .str m100_.1.gName, .int .i64 m100_.1.gNum, .sl (List.map GTerm.c m100_.1.gKids)] [(3, .app 42)])], []⟩ _ (by kernel_rfl) (.cons (cspec_l13Term h126) .nil) ?_
    refine Wc.ret ?_
    obtain rfl := Option.some.inj h
    exact ⟨.inl rfl, by kernel_rfl, by kernel_rfl⟩

def plaws_toIntS_L1 (k : Nat) (a101_ : List Int) : Nat → (List Int) → Int → Option (Out (List Int) (List Int))
  | 0, _, _ => none
  | m + 1, a102_, b103_ =>
    if (decide (b103_ < (a101_.length : Int))) = true then
      (at' a101_ b103_).bind fun b105_ =>
      (at' a102_ b103_).bind fun b106_ =>
      plaws_toIntS_L1 k a101_ m (a102_.set ((b103_).toNat) b105_) (wr.i64 (b103_ + 1))
    else
      some (.done a102_)
/-- laws.toIntS -/
def plaws_toIntS (k : Nat) (a101_ : List Int) : Option (List Int) :=
  if 0 ≤ (a101_.length : Int) ∧ (a101_.length : Int) ≤ 1073741824 then
    (plaws_toIntS_L1 k a101_ k (List.replicate ((a101_.length : Int)).toNat 0) 0).bind fun out1 => match out1 with
    | .ret r => some r
    | .done a104_ =>
      some a104_
  else none
theorem claws_toIntS {k : Nat} {a101_ : List Int} {r : (List Int)} (h : plaws_toIntS k a101_ = some r) : FnO Try.prog 68 [.v (.sl (List.map cI.i64 a101_)) []] (.v (.sl (List.map cI.i64 r)) []) [] := by
  refine FnO.of Try.func68 (rfl : Try.f68.body = some _) (Nat.le_of_ble_eq_true (by kernel_rfl)) (Nat.le_of_ble_eq_true (by kernel_rfl)) ?_
  intro w0 X0 Fin pv0 pb
  unfold plaws_toIntS at h
  refine Wc.seq ?_
  refine Wc.region [] [] [0] [] [] ⟨[(0, (.v (.sl (List.map cI.i64 a101_)), []))], [], []⟩ _ (by kernel_rfl) .nil ?_
  refine Wc.seq ?_
  obtain ⟨h127, h⟩ := oguard h
  refine Wc.region [{}, { v := some (.int .i64 (a101_.length : Int)) }, { c := some (List.map cI.i64 (List.replicate ((a101_.length : Int)).toNat 0)) }, { tk := [7] }] [] [0, 3] [] [] ⟨[(0, (.v (.sl (List.map cI.i64 a101_)), [])), (3, (.v (.slx), [(0, .ex 3 true (List.map cI.i64 (List.replicate ((a101_.length : Int)).toNat 0)))]))], [], []⟩ _ (by kernel_rfl) (.cons (len_obl cI.i64 a101_) (.cons (rep_re (c := cI.i64) (z := 0) rfl ((a101_.length : Int)).toNat) (.cons (ms_obl h127) .nil))) ?_
  refine Wc.seq ?_
  refine Wc.seq ?_
  refine Wc.region [] [] [0, 3, 4] [] [] ⟨[(0, (.v (.sl (List.map cI.i64 a101_)), [])), (3, (.v (.slx), [(0, .ex 3 true (List.map cI.i64 (List.replicate ((a101_.length : Int)).toNat 0)))])), (4, (.v (.int .i64 0), []))], [], []⟩ _ (by kernel_rfl) .nil ?_
  obtain ⟨out1, h128, h⟩ := obind h
  refine Wc.lastJ (fun st => ∃ (a104_ : List Int), out1 = .done a104_ ∧ st = ⟨[(3, (.v (.slx), [(0, .ex 3 true (List.map cI.i64 a104_))]))], [], []⟩) ?_ ?_
  · refine Wc.block ?_
    refine Wc.loop (fun m st => ∃ (a102_ : List Int) (b103_ : Int), st = ⟨[(0, (.v (.sl (List.map cI.i64 a101_)), [])), (3, (.v (.slx), [(0, .ex 3 true (List.map cI.i64 a102_))])), (4, (.v (.int .i64 b103_), []))], [], []⟩ ∧ plaws_toIntS_L1 k a101_ m a102_ b103_ = some out1) ?_ k ⟨_, _, rfl, h128⟩
    rintro m st ⟨a102_, b103_, rfl, h128⟩
    cases m with
    | zero => exact (onone h128).elim
    | succ m =>
      refine Wc.seq ?_
      refine Wc.seq ?_
      refine Wc.region [{}, {}, { v := some (.int .i64 (a101_.length : Int)) }] [] [0, 3, 4, 11] [] [] ⟨[(0, (.v (.sl (List.map cI.i64 a101_)), [])), (3, (.v (.slx), [(0, .ex 3 true (List.map cI.i64 a102_))])), (4, (.v (.int .i64 b103_), [])), (11, (.v (.bool (decide (b103_ < (a101_.length : Int)))), []))], [], []⟩ _ (by kernel_rfl) (.cons (len_obl cI.i64 a101_) .nil) ?_
      rcases oif h128 with ⟨h129, h128⟩ | ⟨h129, h128⟩
      · refine Wc.condT h129 (by kernel_rfl) ?_
        refine Wc.fix (st' := ⟨[(0, (.v (.sl (List.map cI.i64 a101_)), [])), (3, (.v (.slx), [(0, .ex 3 true (List.map cI.i64 a102_))])), (4, (.v (.int .i64 b103_), []))], [], []⟩) [] [0, 3, 4] [] [] (by kernel_rfl) ?_
        refine Wc.skip ?_
        refine Wc.seq ?_
        refine Wc.block ?_
        obtain ⟨b105_, h130, h128⟩ := obind h128
        obtain ⟨b106_, h131, h128⟩ := obind h128
        refine Wc.region [{}, {}, {}, {}, { v := some (.vptr [.int .i64 b105_]) }, {}, {}, { c := some (List.map cI.i64 (a102_.set ((b103_).toNat) b105_)) }] [] [0, 3, 4] [] [] ⟨[(0, (.v (.sl (List.map cI.i64 a101_)), [])), (3, (.v (.slx), [(0, .ex 3 true (List.map cI.i64 (a102_.set ((b103_).toNat) b105_)))])), (4, (.v (.int .i64 b103_), []))], [], []⟩ _ (by kernel_rfl) (.cons (at_obl (c := cI.i64) rfl cI.i64_len h130) (.cons (len_ok 1 [.int .i64 b105_]) (.cons (ix_obl (c := cI.i64) cI.i64_len h131) (.cons (mod_obl (off := 0) (new := [.int .i64 b105_]) (c := cI.i64) rfl rfl (at'_spec h131).2 rfl) (.cons (st_obl (sz := 1) (off := 0) (s := 1) (c := cI.i64) rfl (at'_spec h131).2 rfl (Nat.le_of_ble_eq_true rfl)) .nil))))) ?_
        refine Wc.region [] [] [0, 3, 4] [] [] ⟨[(0, (.v (.sl (List.map cI.i64 a101_)), [])), (3, (.v (.slx), [(0, .ex 3 true (List.map cI.i64 (a102_.set ((b103_).toNat) b105_)))])), (4, (.v (.int .i64 (wr.i64 (b103_ + 1))), []))], [], []⟩ _ (by kernel_rfl) .nil ?_
        exact ⟨_, Nat.lt_succ_self _, _, _, rfl, h128⟩
      · refine Wc.condF h129 (by kernel_rfl) ?_
        refine Wc.fix (st' := ⟨[(3, (.v (.slx), [(0, .ex 3 true (List.map cI.i64 a102_))]))], [], []⟩) [] [3] [] [] (by kernel_rfl) ?_
        refine Wc.exit ?_
        obtain rfl := Option.some.inj h128
        exact ⟨_, rfl, rfl⟩
  · rintro st ⟨a104_, rfl, rfl⟩
    refine Wc.seq ?_
    refine Wc.region [{ tk := [3] }, { tk := [21] }] [] [2] [] [] ⟨[(2, (.v (.slx), [(0, .ex 3 true (List.map cI.i64 a104_))]))], [], []⟩ _ (by kernel_rfl) .nil ?_
    refine Wc.fix (st' := ⟨[(2, (.v (.sl (List.map cI.i64 a104_)), []))], [], []⟩) [.sh (.t 2 0)] [2] [] [] (by kernel_rfl) ?_
    refine Wc.ret ?_
    obtain rfl := Option.some.inj h
    exact ⟨.inl rfl, by kernel_rfl, by kernel_rfl⟩

/-- laws.toCell -/
def plaws_toCell (k : Nat) (c107_ : GCell) : Option GCell :=
  (plaws_toIntS k c107_.gKids).bind fun n108_ =>
  some (GCell.mk c107_.gKind c107_.gName c107_.gNum c107_.gTo n108_)
theorem claws_toCell {k : Nat} {c107_ : GCell} {r : GCell} (h : plaws_toCell k c107_ = some r) : FnO Try.prog 113 [.v (.agg [.int .i64 c107_.gKind, .str c107_.gName, .int .i64 c107_.gNum, .int .i64 c107_.gTo, .sl (List.map cI.i64 c107_.gKids)]) []] (.v (.agg [.int .i64 r.gKind, .str r.gName, .int .i64 r.gNum, .int .i64 r.gTo, .sl (List.map cI.i64 r.gKids)]) []) [] := by
  refine FnO.of Try.func113 (rfl : Try.f113.body = some _) (Nat.le_of_ble_eq_true (by kernel_rfl)) (Nat.le_of_ble_eq_true (by kernel_rfl)) ?_
  intro w0 X0 Fin pv0 pb
  unfold plaws_toCell at h
  refine Wc.seq ?_
  refine Wc.region [] [] [1, 2] [1, 2] [] ⟨[(1, (.ptr 1 0, [])), (2, (.ptr 2 0, []))], [(1, .cells [.int .i64 c107_.gKind, .str c107_.gName, .int .i64 c107_.gNum, .int .i64 c107_.gTo, .sl (List.map cI.i64 c107_.gKids)] []), (2, .cells [.int .i64 0, .str (bs []), .int .i64 0, .int .i64 0, .sl (List.map cI.i64 [])] [(4, .app 3)])], []⟩ _ (by kernel_rfl) .nil ?_
  refine Wc.seq ?_
  refine Wc.region [] [] [1, 2, 3] [1, 2, 3] [] ⟨[(1, (.ptr 1 0, [])), (2, (.ptr 2 0, [])), (3, (.ptr 3 0, []))], [(1, .cells [.int .i64 c107_.gKind, .str c107_.gName, .int .i64 c107_.gNum, .int .i64 c107_.gTo, .sl (List.map cI.i64 c107_.gKids)] []), (2, .cells [.int .i64 0, .str (bs []), .int .i64 0, .int .i64 0, .sl (List.map cI.i64 [])] [(4, .app 3)]), (3, .cells [.int .i64 0, .str (bs []), .int .i64 0, .int .i64 0, .sl (List.map cI.i64 [])] [(4, .app 3)])], []⟩ _ (by kernel_rfl) .nil ?_
  refine Wc.seq ?_
  refine Wc.region [] [] [1, 2, 3] [1, 2, 3] [] ⟨[(1, (.ptr 1 0, [])), (2, (.ptr 2 0, [])), (3, (.ptr 3 0, []))], [(1, .cells [.int .i64 c107_.gKind, .str c107_.gName, .int .i64 c107_.gNum, .int .i64 c107_.gTo, .sl (List.map cI.i64 c107_.gKids)] []), (2, .cells [.int .i64 0, .str (bs []), .int .i64 0, .int .i64 0, .sl (List.map cI.i64 [])] [(4, .app 3)]), (3, .cells [.int .i64 c107_.gKind, .str (bs []), .int .i64 0, .int .i64 0, .sl (List.map cI.i64 [])] [(4, .app 3)])], []⟩ _ (by kernel_rfl) .nil ?_
  refine Wc.seq ?_
  refine Wc.region [] [] [1, 2, 3] [1, 2, 3] [] ⟨[(1, (.ptr 1 0, [])), (2, (.ptr 2 0, [])), (3, (.ptr 3 0, []))], [(1, .cells [.int .i64 c107_.gKind, .str c107_.gName, .int .i64 c107_.gNum, .int .i64 c107_.gTo, .sl (List.map cI.i64 c107_.gKids)] []), (2, .cells [.int .i64 0, .str (bs []), .int .i64 0, .int .i64 0, .sl (List.map cI.i64 [])] [(4, .app 3)]), (3, .cells [.int .i64 c107_.gKind, .str c107_.gName, .int .i64 0, .int .i64 0, .sl (List.map cI.i64 [])] [(4, .app 3)])], []⟩ _ (by kernel_rfl) .nil ?_
  refine Wc.seq ?_
  refine Wc.region [] [] [1, 2, 3] [1, 2, 3] [] ⟨[(1, (.ptr 1 0, [])), (2, (.ptr 2 0, [])), (3, (.ptr 3 0, []))], [(1, .cells [.int .i64 c107_.gKind, .str c107_.gName, .int .i64 c107_.gNum, .int .i64 c107_.gTo, .sl (List.map cI.i64 c107_.gKids)] []), (2, .cells [.int .i64 0, .str (bs []), .int .i64 0, .int .i64 0, .sl (List.map cI.i64 [])] [(4, .app 3)]), (3, .cells [.int .i64 c107_.gKind, .str c107_.gName, .int .i64 c107_.gNum, .int .i64 0, .sl (List.map cI.i64 [])] [(4, .app 3)])], []⟩ _ (by kernel_rfl) .nil ?_
  refine Wc.seq ?_
  refine Wc.region [] [] [1, 2, 3] [1, 2, 3] [] ⟨[(1, (.ptr 1 0, [])), (2, (.ptr 2 0, [])), (3, (.ptr 3 0, []))], [(1, .cells [.int .i64 c107_.gKind, .str c107_.gName, .int .i64 c107_.gNum, .int .i64 c107_.gTo, .sl (List.map cI.i64 c107_.gKids)] []), (2, .cells [.int .i64 0, .str (bs []), .int .i64 0, .int .i64 0, .sl (List.map cI.i64 [])] [(4, .app 3)]), (3, .cells [.int .i64 c107_.gKind, .str c107_.gName, .int .i64 c107_.gNum, .int .i64 c107_.gTo, .sl (List.map cI.i64 [])] [(4, .app 3)])], []⟩ _ (by kernel_rfl) .nil ?_
  refine Wc.seq ?_
  obtain ⟨n108_, h132, h⟩ := obind h
  refine Wc.region [{}, {}, { r := some (.v (.sl (List.map cI.i64 n108_)) []) }] [] [2, 3] [2, 3] [] ⟨[(2, (.ptr 2 0, [])), (3, (.ptr 3 0, []))], [(2, .cells [.int .i64 0, .str (bs []), .int .i64 0, .int .i64 0, .sl (List.map cI.i64 [])] [(4, .app 3)]), (3, .cells [.int .i64 c107_.gKind, .str c107_.gName, .int .i64 c107_.gNum, .int .i64 c107_.gTo, .sl (List.map cI.i64 n108_)] [])], []⟩ _ (by kernel_rfl) (.cons (claws_toIntS h132) .nil) ?_
  refine Wc.seq ?_
  refine Wc.region [] [] [2] [2] [] ⟨[(2, (.ptr 2 0, []))], [(2, .cells [.int .i64 c107_.gKind, .str c107_.gName, .int .i64 c107_.gNum, .int .i64 c107_.gTo, .sl (List.map cI.i64 n108_)] [])], []⟩ _ (by kernel_rfl) .nil ?_
  refine Wc.ret ?_
  obtain rfl := Option.some.inj h
  exact ⟨.inl rfl, by kernel_rfl, by kernel_rfl⟩

def plaws_toCellS_L1 (k : Nat) (d109_ : List GCell) : Nat → (List GCell) → Int → Option (Out (List GCell) (List GCell))
  | 0, _, _ => none
  | m + 1, d110_, b111_ =>
    if (decide (b111_ < (d109_.length : Int))) = true then
      (at' d109_ b111_).bind fun c113_ =>
      (plaws_toCell k c113_).bind fun c114_ =>
      (at' d110_ b111_).bind fun c115_ =>
      plaws_toCellS_L1 k d109_ m (d110_.set ((b111_).toNat) c114_) (wr.i64 (b111_ + 1))
    else
      some (.done d110_)
/-- laws.toCellS -/
def plaws_toCellS (k : Nat) (d109_ : List GCell) : Option (List GCell) :=
  if 0 ≤ (d109_.length : Int) ∧ (d109_.length : Int) ≤ 1073741824 then
    (plaws_toCellS_L1 k d109_ k (List.replicate ((d109_.length : Int)).toNat (GCell.mk 0 (bs []) 0 0 [])) 0).bind fun out1 => match out1 with
    | .ret r => some r
    | .done d112_ =>
      some d112_
  else none
theorem claws_toCellS {k : Nat} {d109_ : List GCell} {r : (List GCell)} (h : plaws_toCellS k d109_ = some r) : FnO Try.prog 67 [.v (.sl (List.map GCell.c d109_)) []] (.v (.sl (List.map GCell.c r)) []) [] := by
  refine FnO.of Try.func67 (rfl : Try.f67.body = some _) (Nat.le_of_ble_eq_true (by kernel_rfl)) (Nat.le_of_ble_eq_true (by kernel_rfl)) ?_
  intro w0 X0 Fin pv0 pb
  unfold plaws_toCellS at h
  refine Wc.seq ?_
  refine Wc.region [] [] [0] [] [] ⟨[(0, (.v (.sl (List.map GCell.c d109_)), []))], [], []⟩ _ (by kernel_rfl) .nil ?_
  refine Wc.seq ?_
  obtain ⟨h133, h⟩ := oguard h
  refine Wc.region [{}, { v := some (.int .i64 (d109_.length : Int)) }, { c := some (List.map GCell.c (List.replicate ((d109_.length : Int)).toNat (GCell.mk 0 (bs []) 0 0 []))) }, { tk := [7], fx := [.ag (.t 7 0)] }] [] [0, 3] [] [] ⟨[(0, (.v (.sl (List.map GCell.c d109_)), [])), (3, (.v (.slx), [(0, .ex 139 false (List.map GCell.c (List.replicate ((d109_.length : Int)).toNat (GCell.mk 0 (bs []) 0 0 []))))]))], [], []⟩ _ (by kernel_rfl) (.cons (len_obl GCell.c d109_) (.cons (rep_re (c := GCell.c) (z := (GCell.mk 0 (bs []) 0 0 [])) (GCell.c_eq (GCell.mk 0 (bs []) 0 0 [])) ((d109_.length : Int)).toNat) (.cons (ms_obl h133) .nil))) ?_
  refine Wc.seq ?_
  refine Wc.seq ?_
  refine Wc.region [] [] [0, 3, 4] [] [] ⟨[(0, (.v (.sl (List.map GCell.c d109_)), [])), (3, (.v (.slx), [(0, .ex 139 false (List.map GCell.c (List.replicate ((d109_.length : Int)).toNat (GCell.mk 0 (bs []) 0 0 []))))])), (4, (.v (.int .i64 0), []))], [], []⟩ _ (by kernel_rfl) .nil ?_
  obtain ⟨out1, h134, h⟩ := obind h
  refine Wc.lastJ (fun st => ∃ (d112_ : List GCell), out1 = .done d112_ ∧ st = ⟨[(3, (.v (.slx), [(0, .ex 139 false (List.map GCell.c d112_))]))], [], []⟩) ?_ ?_
  · refine Wc.block ?_
    refine Wc.loop (fun m st => ∃ (d110_ : List GCell) (b111_ : Int), st = ⟨[(0, (.v (.sl (List.map GCell.c d109_)), [])), (3, (.v (.slx), [(0, .ex 139 false (List.map GCell.c d110_))])), (4, (.v (.int .i64 b111_), []))], [], []⟩ ∧ plaws_toCellS_L1 k d109_ m d110_ b111_ = some out1) ?_ k ⟨_, _, rfl, h134⟩
    rintro m st ⟨d110_, b111_, rfl, h134⟩
    cases m with
    | zero => exact (onone h134).elim
    | succ m =>
      refine Wc.seq ?_
      refine Wc.seq ?_
      refine Wc.region [{}, {}, { v := some (.int .i64 (d109_.length : Int)) }] [] [0, 3, 4, 11] [] [] ⟨[(0, (.v (.sl (List.map GCell.c d109_)), [])), (3, (.v (.slx), [(0, .ex 139 false (List.map GCell.c d110_))])), (4, (.v (.int .i64 b111_), [])), (11, (.v (.bool (decide (b111_ < (d109_.length : Int)))), []))], [], []⟩ _ (by kernel_rfl) (.cons (len_obl GCell.c d109_) .nil) ?_
      rcases oif h134 with ⟨h135, h134⟩ | ⟨h135, h134⟩
      · refine Wc.condT h135 (by kernel_rfl) ?_
        refine Wc.fix (st' := ⟨[(0, (.v (.sl (List.map GCell.c d109_)), [])), (3, (.v (.slx), [(0, .ex 139 false (List.map GCell.c d110_))])), (4, (.v (.int .i64 b111_), []))], [], []⟩) [] [0, 3, 4] [] [] (by kernel_rfl) ?_
        refine Wc.skip ?_
        refine Wc.seq ?_
        refine Wc.block ?_
        obtain ⟨c113_, h136, h134⟩ := obind h134
        obtain ⟨c114_, h137, h134⟩ := obind h134
        obtain ⟨c115_, h138, h134⟩ := obind h134
        refine Wc.region [{}, {}, {}, {}, { v := some (.vptr [.int .i64 c113_.gKind, .str c113_.gName, .int .i64 c113_.gNum, .int .i64 c113_.gTo, .sl (List.map cI.i64 c113_.gKids)]) }, {}, { r := some (.v (.agg [.int .i64 c114_.gKind, .str c114_.gName, .int .i64 c114_.gNum, .int .i64 c114_.gTo, .sl (List.map cI.i64 c114_.gKids)]) []) }, {}, { c := some (List.map GCell.c (d110_.set ((b111_).toNat) c114_)) }] [] [0, 3, 4] [] [] ⟨[(0, (.v (.sl (List.map GCell.c d109_)), [])), (3, (.v (.slx), [(0, .ex 139 false (List.map GCell.c (d110_.set ((b111_).toNat) c114_)))])), (4, (.v (.int .i64 b111_), []))], [], []⟩ _ (by kernel_rfl) (.cons (at_obl (c := GCell.c) (GCell.c_eq c113_) GCell.c_len h136) (.cons (len_ok 5 [.int .i64 c113_.gKind, .str c113_.gName, .int .i64 c113_.gNum, .int .i64 c113_.gTo, .sl (List.map cI.i64 c113_.gKids)]) (.cons (claws_toCell h137) (.cons (ix_obl (c := GCell.c) GCell.c_len h138) (.cons (mod_obl (off := 0) (new := [.int .i64 c114_.gKind, .str c114_.gName, .int .i64 c114_.gNum, .int .i64 c114_.gTo, .sl (List.map cI.i64 c114_.gKids)]) (c := GCell.c) (GCell.c_eq c115_) (GCell.c_eq c114_) (at'_spec h138).2 rfl) (.cons (st_obl (sz := 5) (off := 0) (s := 5) (c := GCell.c) (GCell.c_eq c115_) (at'_spec h138).2 rfl (Nat.le_of_ble_eq_true rfl)) .nil)))))) ?_
        refine Wc.region [] [] [0, 3, 4] [] [] ⟨[(0, (.v (.sl (List.map GCell.c d109_)), [])), (3, (.v (.slx), [(0, .ex 139 false (List.map GCell.c (d110_.set ((b111_).toNat) c114_)))])), (4, (.v (.int .i64 (wr.i64 (b111_ + 1))), []))], [], []⟩ _ (by kernel_rfl) .nil ?_
        exact ⟨_, Nat.lt_succ_self _, _, _, rfl, h134⟩
      · refine Wc.condF h135 (by kernel_rfl) ?_
        refine Wc.fix (st' := ⟨[(3, (.v (.slx), [(0, .ex 139 false (List.map GCell.c d110_))]))], [], []⟩) [] [3] [] [] (by kernel_rfl) ?_
        refine Wc.exit ?_
        obtain rfl := Option.some.inj h134
        exact ⟨_, rfl, rfl⟩
  · rintro st ⟨d112_, rfl, rfl⟩
    refine Wc.seq ?_
    refine Wc.region [{ tk := [3] }, { tk := [22] }] [] [2] [] [] ⟨[(2, (.v (.slx), [(0, .ex 139 false (List.map GCell.c d112_))]))], [], []⟩ _ (by kernel_rfl) .nil ?_
    refine Wc.fix (st' := ⟨[(2, (.v (.sl (List.map GCell.c d112_)), []))], [], []⟩) [.sh (.t 2 0)] [2] [] [] (by kernel_rfl) ?_
    refine Wc.ret ?_
    obtain rfl := Option.some.inj h
    exact ⟨.inl rfl, by kernel_rfl, by kernel_rfl⟩

/-- laws.toHeap -/
def plaws_toHeap (k : Nat) (e116_ : GHeap) : Option GHeap :=
  (plaws_toCellS k e116_.gCells).bind fun o117_ =>
  (plaws_toIntS k e116_.gTrail).bind fun n118_ =>
  some (GHeap.mk o117_ n118_)
theorem claws_toHeap {k : Nat} {e116_ : GHeap} {r : GHeap} (h : plaws_toHeap k e116_ = some r) : FnO Try.prog 18 [.v (.agg [.sl (List.map GCell.c e116_.gCells), .sl (List.map cI.i64 e116_.gTrail)]) []] (.v (.agg [.sl (List.map GCell.c r.gCells), .sl (List.map cI.i64 r.gTrail)]) []) [] := by
  refine FnO.of Try.func18 (rfl : Try.f18.body = some _) (Nat.le_of_ble_eq_true (by kernel_rfl)) (Nat.le_of_ble_eq_true (by kernel_rfl)) ?_
  intro w0 X0 Fin pv0 pb
  unfold plaws_toHeap at h
  refine Wc.seq ?_
  refine Wc.region [] [] [1, 2] [1, 2] [] ⟨[(1, (.ptr 1 0, [])), (2, (.ptr 2 0, []))], [(1, .cells [.sl (List.map GCell.c e116_.gCells), .sl (List.map cI.i64 e116_.gTrail)] []), (2, .cells [.sl (List.map GCell.c []), .sl (List.map cI.i64 [])] [(0, .app 139), (1, .app 3)])], []⟩ _ (by kernel_rfl) .nil ?_
  refine Wc.seq ?_
  refine Wc.region [] [] [1, 2, 3] [1, 2, 3] [] ⟨[(1, (.ptr 1 0, [])), (2, (.ptr 2 0, [])), (3, (.ptr 3 0, []))], [(1, .cells [.sl (List.map GCell.c e116_.gCells), .sl (List.map cI.i64 e116_.gTrail)] []), (2, .cells [.sl (List.map GCell.c []), .sl (List.map cI.i64 [])] [(0, .app 139), (1, .app 3)]), (3, .cells [.sl (List.map GCell.c []), .sl (List.map cI.i64 [])] [(0, .app 139), (1, .app 3)])], []⟩ _ (by kernel_rfl) .nil ?_
  refine Wc.seq ?_
  obtain ⟨o117_, h139, h⟩ := obind h
  refine Wc.region [{}, {}, { r := some (.v (.sl (List.map GCell.c o117_)) []) }] [] [1, 2, 3] [1, 2, 3] [] ⟨[(1, (.ptr 1 0, [])), (2, (.ptr 2 0, [])), (3, (.ptr 3 0, []))], [(1, .cells [.sl (List.map GCell.c e116_.gCells), .sl (List.map cI.i64 e116_.gTrail)] []), (2, .cells [.sl (List.map GCell.c []), .sl (List.map cI.i64 [])] [(0, .app 139), (1, .app 3)]), (3, .cells [.sl (List.map GCell.c o117_), .sl (List.map cI.i64 [])] [(1, .app 3)])], []⟩ _ (by kernel_rfl) (.cons (claws_toCellS h139) .nil) ?_
  refine Wc.seq ?_
  obtain ⟨n118_, h140, h⟩ := obind h
  refine Wc.region [{}, {}, { r := some (.v (.sl (List.map cI.i64 n118_)) []) }] [] [2, 3] [2, 3] [] ⟨[(2, (.ptr 2 0, [])), (3, (.ptr 3 0, []))], [(2, .cells [.sl (List.map GCell.c []), .sl (List.map cI.i64 [])] [(0, .app 139), (1, .app 3)]), (3, .cells [.sl (List.map GCell.c o117_), .sl (List.map cI.i64 n118_)] [])], []⟩ _ (by kernel_rfl) (.cons (claws_toIntS h140) .nil) ?_
  refine Wc.seq ?_
  refine Wc.region [] [] [2] [2] [] ⟨[(2, (.ptr 2 0, []))], [(2, .cells [.sl (List.map GCell.c o117_), .sl (List.map cI.i64 n118_)] [])], []⟩ _ (by kernel_rfl) .nil ?_
  refine Wc.ret ?_
  obtain rfl := Option.some.inj h
  exact ⟨.inl rfl, by kernel_rfl, by kernel_rfl⟩

/-- impl.within -/
def pimpl_within (k : Nat) (b119_ : Int) (b120_ : Int) (b121_ : Int) : Option Bool :=
  if (decide (b119_ ≥ b120_)) = true then
    some (decide (b119_ ≤ b121_))
  else
    some false
theorem cimpl_within {k : Nat} {b119_ : Int} {b120_ : Int} {b121_ : Int} {r : Bool} (h : pimpl_within k b119_ b120_ b121_ = some r) : FnO Try.prog 114 [.v (.int .i64 b119_) [], .v (.int .i64 b120_) [], .v (.int .i64 b121_) []] (.v (.bool r) []) [] := by
  refine FnO.of Try.func114 (rfl : Try.f114.body = some _) (Nat.le_of_ble_eq_true (by kernel_rfl)) (Nat.le_of_ble_eq_true (by kernel_rfl)) ?_
  intro w0 X0 Fin pv0 pb
  unfold pimpl_within at h
  refine Wc.seq ?_
  refine Wc.region [] [] [0, 1, 2] [] [] ⟨[(0, (.v (.int .i64 b119_), [])), (1, (.v (.int .i64 b120_), [])), (2, (.v (.int .i64 b121_), []))], [], []⟩ _ (by kernel_rfl) .nil ?_
  refine Wc.seq ?_
  rcases oif h with ⟨h141, h⟩ | ⟨h141, h⟩
  · refine Wc.region [{}, {}, {}, { re := some (.bool true) }] [] [6] [] [] ⟨[(6, (.v (.bool (decide (b119_ ≤ b121_))), []))], [], []⟩ _ (by kernel_rfl) (.cons (congrArg AV.bool h141) .nil) ?_
    refine Wc.ret ?_
    obtain rfl := Option.some.inj h
    exact ⟨.inl rfl, by kernel_rfl, by kernel_rfl⟩
  · refine Wc.region [{}, {}, {}, { re := some (.bool false) }] [] [6] [] [] ⟨[(6, (.v (.bool false), []))], [], []⟩ _ (by kernel_rfl) (.cons (congrArg AV.bool h141) .nil) ?_
    refine Wc.ret ?_
    obtain rfl := Option.some.inj h
    exact ⟨.inl rfl, by kernel_rfl, by kernel_rfl⟩

/-- impl.isCell -/
def pimpl_isCell (k : Nat) (e122_ : GHeap) (b123_ : Int) : Option Bool :=
  (pimpl_within k b123_ 0 (wr.i64 ((e122_.gCells.length : Int) - 1))).bind fun f124_ =>
  some f124_
theorem cimpl_isCell {k : Nat} {e122_ : GHeap} {b123_ : Int} {r : Bool} (h : pimpl_isCell k e122_ b123_ = some r) : FnO Try.prog 115 [.v (.agg [.sl (List.map GCell.c e122_.gCells), .sl (List.map cI.i64 e122_.gTrail)]) [], .v (.int .i64 b123_) []] (.v (.bool r) []) [] := by
  refine FnO.of Try.func115 (rfl : Try.f115.body = some _) (Nat.le_of_ble_eq_true (by kernel_rfl)) (Nat.le_of_ble_eq_true (by kernel_rfl)) ?_
  intro w0 X0 Fin pv0 pb
  unfold pimpl_isCell at h
  refine Wc.seq ?_
  refine Wc.region [] [] [1, 2] [2] [] ⟨[(1, (.v (.int .i64 b123_), [])), (2, (.ptr 2 0, []))], [(2, .cells [.sl (List.map GCell.c e122_.gCells), .sl (List.map cI.i64 e122_.gTrail)] [])], []⟩ _ (by kernel_rfl) .nil ?_
  refine Wc.seq ?_
  obtain ⟨f124_, h142, h⟩ := obind h
  refine Wc.region [{}, {}, {}, { v := some (.int .i64 (e122_.gCells.length : Int)) }, {}, { r := some (.v (.bool f124_) []) }] [] [4] [] [] ⟨[(4, (.v (.bool f124_), []))], [], []⟩ _ (by kernel_rfl) (.cons (len_obl GCell.c e122_.gCells) (.cons (cimpl_within h142) .nil)) ?_
  refine Wc.ret ?_
  obtain rfl := Option.some.inj h
  exact ⟨.inl rfl, by kernel_rfl, by kernel_rfl⟩

def pimpl_follow_L1 (k : Nat) (e125_ : GHeap) : Nat → Int → Int → Option (Out Int Unit)
  | 0, _, _ => none
  | m + 1, b127_, b128_ =>
    if (decide (b128_ < (wr.i64 ((e125_.gCells.length : Int) + 1)))) = true then
      (pimpl_isCell k e125_ b127_).bind fun f129_ =>
      if (!f129_) = true then
        some (.ret (-1))
      else
        (at' e125_.gCells b127_).bind fun c130_ =>
        if (c130_.gKind != 1) = true then
          some (.ret b127_)
        else
          if (decide (c130_.gTo < 0)) = true then
            some (.ret b127_)
          else
            (at' e125_.gCells b127_).bind fun c131_ =>
            pimpl_follow_L1 k e125_ m c131_.gTo (wr.i64 (b128_ + 1))
    else
      some (.done ())
/-- impl.follow -/
def pimpl_follow (k : Nat) (e125_ : GHeap) (b126_ : Int) : Option Int :=
  (pimpl_follow_L1 k e125_ k b126_ 0).bind fun out1 => match out1 with
  | .ret r => some r
  | .done () =>
    some (-1)
theorem cimpl_follow {k : Nat} {e125_ : GHeap} {b126_ : Int} {r : Int} (h : pimpl_follow k e125_ b126_ = some r) : FnO Try.prog 116 [.v (.agg [.sl (List.map GCell.c e125_.gCells), .sl (List.map cI.i64 e125_.gTrail)]) [], .v (.int .i64 b126_) []] (.v (.int .i64 r) []) [] := by
  refine FnO.of Try.func116 (rfl : Try.f116.body = some _) (Nat.le_of_ble_eq_true (by kernel_rfl)) (Nat.le_of_ble_eq_true (by kernel_rfl)) ?_
  intro w0 X0 Fin pv0 pb
  unfold pimpl_follow at h
  refine Wc.seq ?_
  refine Wc.region [] [] [1, 2] [2] [] ⟨[(1, (.v (.int .i64 b126_), [])), (2, (.ptr 2 0, []))], [(2, .cells [.sl (List.map GCell.c e125_.gCells), .sl (List.map cI.i64 e125_.gTrail)] [])], []⟩ _ (by kernel_rfl) .nil ?_
  refine Wc.seq ?_
  refine Wc.seq ?_
  refine Wc.region [{}, {}, { v := some (.int .i64 (e125_.gCells.length : Int)) }] [] [1, 2, 9, 10] [2] [] ⟨[(1, (.v (.int .i64 b126_), [])), (2, (.ptr 2 0, [])), (9, (.v (.int .i64 (wr.i64 ((e125_.gCells.length : Int) + 1))), [])), (10, (.v (.int .i64 0), []))], [(2, .cells [.sl (List.map GCell.c e125_.gCells), .sl (List.map cI.i64 e125_.gTrail)] [])], []⟩ _ (by kernel_rfl) (.cons (len_obl GCell.c e125_.gCells) .nil) ?_
  obtain ⟨out1, h143, h⟩ := obind h
  refine Wc.lastJ (fun st => out1 = .done () ∧ st = ⟨[], [], []⟩) ?_ ?_
  · refine Wc.block ?_
    refine Wc.loop (fun m st => ∃ (b127_ : Int) (b128_ : Int), st = ⟨[(1, (.v (.int .i64 b127_), [])), (2, (.ptr 2 0, [])), (9, (.v (.int .i64 (wr.i64 ((e125_.gCells.length : Int) + 1))), [])), (10, (.v (.int .i64 b128_), []))], [(2, .cells [.sl (List.map GCell.c e125_.gCells), .sl (List.map cI.i64 e125_.gTrail)] [])], []⟩ ∧ pimpl_follow_L1 k e125_ m b127_ b128_ = some out1) ?_ k ⟨_, _, rfl, h143⟩
    rintro m st ⟨b127_, b128_, rfl, h143⟩
    cases m with
    | zero => exact (onone h143).elim
    | succ m =>
      refine Wc.seq ?_
      refine Wc.region [] [] [1, 2, 9, 10, 11] [2] [] ⟨[(1, (.v (.int .i64 b127_), [])), (2, (.ptr 2 0, [])), (9, (.v (.int .i64 (wr.i64 ((e125_.gCells.length : Int) + 1))), [])), (10, (.v (.int .i64 b128_), [])), (11, (.v (.bool (decide (b128_ < (wr.i64 ((e125_.gCells.length : Int) + 1))))), []))], [(2, .cells [.sl (List.map GCell.c e125_.gCells), .sl (List.map cI.i64 e125_.gTrail)] [])], []⟩ _ (by kernel_rfl) .nil ?_
      refine Wc.seq ?_
      rcases oif h143 with ⟨h144, h143⟩ | ⟨h144, h143⟩
      · refine Wc.condT h144 (by kernel_rfl) ?_
        refine Wc.fix (st' := ⟨[(1, (.v (.int .i64 b127_), [])), (2, (.ptr 2 0, [])), (9, (.v (.int .i64 (wr.i64 ((e125_.gCells.length : Int) + 1))), [])), (10, (.v (.int .i64 b128_), []))], [(2, .cells [.sl (List.map GCell.c e125_.gCells), .sl (List.map cI.i64 e125_.gTrail)] [])], []⟩) [] [1, 2, 9, 10] [2] [] (by kernel_rfl) ?_
        refine Wc.skip ?_
        refine Wc.seq ?_
        refine Wc.block ?_
        refine Wc.seq ?_
        refine Wc.seq ?_
        obtain ⟨f129_, h145, h143⟩ := obind h143
        refine Wc.region [{}, {}, { r := some (.v (.bool f129_) []) }] [] [1, 2, 9, 10, 15] [2] [] ⟨[(1, (.v (.int .i64 b127_), [])), (2, (.ptr 2 0, [])), (9, (.v (.int .i64 (wr.i64 ((e125_.gCells.length : Int) + 1))), [])), (10, (.v (.int .i64 b128_), [])), (15, (.v (.bool (!f129_)), []))], [(2, .cells [.sl (List.map GCell.c e125_.gCells), .sl (List.map cI.i64 e125_.gTrail)] [])], []⟩ _ (by kernel_rfl) (.cons (cimpl_isCell h145) .nil) ?_
        rcases oif h143 with ⟨h146, h143⟩ | ⟨h146, h143⟩
        · refine Wc.condT h146 (by kernel_rfl) ?_
          refine Wc.seq ?_
          refine Wc.region [] [] [4] [] [] ⟨[(4, (.v (.int .i64 (-1)), []))], [], []⟩ _ (by kernel_rfl) .nil ?_
          refine Wc.ret ?_
          obtain rfl := Option.some.inj h143
          obtain rfl := Option.some.inj h
          exact ⟨.inl rfl, by kernel_rfl, by kernel_rfl⟩
        · refine Wc.condF h146 (by kernel_rfl) ?_
          refine Wc.fix (st' := ⟨[(1, (.v (.int .i64 b127_), [])), (2, (.ptr 2 0, [])), (9, (.v (.int .i64 (wr.i64 ((e125_.gCells.length : Int) + 1))), [])), (10, (.v (.int .i64 b128_), []))], [(2, .cells [.sl (List.map GCell.c e125_.gCells), .sl (List.map cI.i64 e125_.gTrail)] [])], []⟩) [] [1, 2, 9, 10] [2] [] (by kernel_rfl) ?_
          refine Wc.skip ?_
          refine Wc.seq ?_
          refine Wc.seq ?_
          obtain ⟨c130_, h147, h143⟩ := obind h143
          refine Wc.region [{}, {}, {}, { v := some (.vptr [.int .i64 c130_.gKind, .str c130_.gName, .int .i64 c130_.gNum, .int .i64 c130_.gTo, .sl (List.map cI.i64 c130_.gKids)]) }] [] [1, 2, 5, 9, 10] [2, 5] [] ⟨[(1, (.v (.int .i64 b127_), [])), (2, (.ptr 2 0, [])), (5, (.ptr 5 0, [])), (9, (.v (.int .i64 (wr.i64 ((e125_.gCells.length : Int) + 1))), [])), (10, (.v (.int .i64 b128_), []))], [(2, .cells [.sl (List.map GCell.c e125_.gCells), .sl (List.map cI.i64 e125_.gTrail)] []), (5, .cells [.int .i64 c130_.gKind, .str c130_.gName, .int .i64 c130_.gNum, .int .i64 c130_.gTo, .sl (List.map cI.i64 c130_.gKids)] [])], []⟩ _ (by kernel_rfl) (.cons (at_obl (c := GCell.c) (GCell.c_eq c130_) GCell.c_len h147) (.cons (len_ok 5 [.int .i64 c130_.gKind, .str c130_.gName, .int .i64 c130_.gNum, .int .i64 c130_.gTo, .sl (List.map cI.i64 c130_.gKids)]) .nil)) ?_
          refine Wc.seq ?_
          rcases oif h143 with ⟨h148, h143⟩ | ⟨h148, h143⟩
          · refine Wc.region [{}, {}, {}, { re := some (.bool true) }] [] [1, 2, 9, 10, 28] [2] [] ⟨[(1, (.v (.int .i64 b127_), [])), (2, (.ptr 2 0, [])), (9, (.v (.int .i64 (wr.i64 ((e125_.gCells.length : Int) + 1))), [])), (10, (.v (.int .i64 b128_), [])), (28, (.v (.bool true), []))], [(2, .cells [.sl (List.map GCell.c e125_.gCells), .sl (List.map cI.i64 e125_.gTrail)] [])], []⟩ _ (by kernel_rfl) (.cons (congrArg AV.bool h148) .nil) ?_
            refine Wc.condT rfl (by kernel_rfl) ?_
            refine Wc.seq ?_
            refine Wc.region [] [] [4] [] [] ⟨[(4, (.v (.int .i64 b127_), []))], [], []⟩ _ (by kernel_rfl) .nil ?_
            refine Wc.ret ?_
            obtain rfl := Option.some.inj h143
            obtain rfl := Option.some.inj h
            exact ⟨.inl rfl, by kernel_rfl, by kernel_rfl⟩
          · refine Wc.region [{}, {}, {}, { re := some (.bool false) }] [] [1, 2, 9, 10, 28] [2] [] ⟨[(1, (.v (.int .i64 b127_), [])), (2, (.ptr 2 0, [])), (9, (.v (.int .i64 (wr.i64 ((e125_.gCells.length : Int) + 1))), [])), (10, (.v (.int .i64 b128_), [])), (28, (.v (.bool (decide (c130_.gTo < 0))), []))], [(2, .cells [.sl (List.map GCell.c e125_.gCells), .sl (List.map cI.i64 e125_.gTrail)] [])], []⟩ _ (by kernel_rfl) (.cons (congrArg AV.bool h148) .nil) ?_
            rcases oif h143 with ⟨h149, h143⟩ | ⟨h149, h143⟩
            · refine Wc.condT h149 (by kernel_rfl) ?_
              refine Wc.seq ?_
              refine Wc.region [] [] [4] [] [] ⟨[(4, (.v (.int .i64 b127_), []))], [], []⟩ _ (by kernel_rfl) .nil ?_
              refine Wc.ret ?_
              obtain rfl := Option.some.inj h143
              obtain rfl := Option.some.inj h
              exact ⟨.inl rfl, by kernel_rfl, by kernel_rfl⟩
            · refine Wc.condF h149 (by kernel_rfl) ?_
              refine Wc.fix (st' := ⟨[(1, (.v (.int .i64 b127_), [])), (2, (.ptr 2 0, [])), (9, (.v (.int .i64 (wr.i64 ((e125_.gCells.length : Int) + 1))), [])), (10, (.v (.int .i64 b128_), []))], [(2, .cells [.sl (List.map GCell.c e125_.gCells), .sl (List.map cI.i64 e125_.gTrail)] [])], []⟩) [] [1, 2, 9, 10] [2] [] (by kernel_rfl) ?_
              refine Wc.skip ?_
              obtain ⟨c131_, h150, h143⟩ := obind h143
              refine Wc.region [{}, {}, {}, { v := some (.vptr [.int .i64 c131_.gKind, .str c131_.gName, .int .i64 c131_.gNum, .int .i64 c131_.gTo, .sl (List.map cI.i64 c131_.gKids)]) }] [] [1, 2, 9, 10] [2] [] ⟨[(1, (.v (.int .i64 c131_.gTo), [])), (2, (.ptr 2 0, [])), (9, (.v (.int .i64 (wr.i64 ((e125_.gCells.length : Int) + 1))), [])), (10, (.v (.int .i64 b128_), []))], [(2, .cells [.sl (List.map GCell.c e125_.gCells), .sl (List.map cI.i64 e125_.gTrail)] [])], []⟩ _ (by kernel_rfl) (.cons (at_obl (c := GCell.c) (GCell.c_eq c131_) GCell.c_len h150) (.cons (len_ok 1 [.int .i64 c131_.gTo, .sl (List.map cI.i64 c131_.gKids)]) .nil)) ?_
              refine Wc.region [] [] [1, 2, 9, 10] [2] [] ⟨[(1, (.v (.int .i64 c131_.gTo), [])), (2, (.ptr 2 0, [])), (9, (.v (.int .i64 (wr.i64 ((e125_.gCells.length : Int) + 1))), [])), (10, (.v (.int .i64 (wr.i64 (b128_ + 1))), []))], [(2, .cells [.sl (List.map GCell.c e125_.gCells), .sl (List.map cI.i64 e125_.gTrail)] [])], []⟩ _ (by kernel_rfl) .nil ?_
              exact ⟨_, Nat.lt_succ_self _, _, _, rfl, h143⟩
      · refine Wc.condF h144 (by kernel_rfl) ?_
        refine Wc.fix (st' := ⟨[], [], []⟩) [] [] [] [] (by kernel_rfl) ?_
        refine Wc.exit ?_
        obtain rfl := Option.some.inj h143
        exact ⟨rfl, rfl⟩
  · rintro st ⟨rfl, rfl⟩
    refine Wc.seq ?_
    refine Wc.region [] [] [4] [] [] ⟨[(4, (.v (.int .i64 (-1)), []))], [], []⟩ _ (by kernel_rfl) .nil ?_
    refine Wc.ret ?_
    obtain rfl := Option.some.inj h
    exact ⟨.inl rfl, by kernel_rfl, by kernel_rfl⟩

def pimpl_HeapOk_L3 (k : Nat) (c135_ : GCell) (e132_ : GHeap) : Nat → Int → Option (Out Bool Unit)
  | 0, _ => none
  | m + 1, b138_ =>
    if (decide (b138_ < (c135_.gKids.length : Int))) = true then
      (at' c135_.gKids b138_).bind fun b139_ =>
      (pimpl_isCell k e132_ b139_).bind fun f140_ =>
      if (!f140_) = true then
        some (.ret false)
      else
        pimpl_HeapOk_L3 k c135_ e132_ m (wr.i64 (b138_ + 1))
    else
      some (.done ())
def pimpl_HeapOk_J2 (k : Nat) (bk_ : Int → (List (Int × Int)) → Option (Out Bool Unit)) (c135_ : GCell) (e132_ : GHeap) (b133_ : Int) (p137_ : List (Int × Int)) : Option (Out Bool Unit) :=
  (pimpl_HeapOk_L3 k c135_ e132_ k 0).bind fun out3 => match out3 with
  | .ret r => some (.ret r)
  | .done () =>
    bk_ (wr.i64 (b133_ + 1)) p137_
def pimpl_HeapOk_L1 (k : Nat) (e132_ : GHeap) : Nat → Int → (List (Int × Int)) → Option (Out Bool Unit)
  | 0, _, _ => none
  | m + 1, b133_, p134_ =>
    if (decide (b133_ < (e132_.gCells.length : Int))) = true then
      (at' e132_.gCells b133_).bind fun c135_ =>
      (pimpl_within k c135_.gKind 1 4).bind fun f136_ =>
      if (!f136_) = true then
        some (.ret false)
      else
        if (c135_.gKind == 1) = true then
          if (decide ((mget (mset p134_ c135_.gNum (wr.i64 ((mget p134_ c135_.gNum) + 1))) c135_.gNum) > 1)) = true then
            some (.ret false)
          else
            if (c135_.gTo != (-1)) = true then
              (pimpl_isCell k e132_ c135_.gTo).bind fun f141_ =>
              if (!f141_) = true then
                some (.ret false)
              else
                (pimpl_follow k e132_ b133_).bind fun b142_ =>
                if (decide (b142_ < 0)) = true then
                  some (.ret false)
                else
                  pimpl_HeapOk_J2 k (pimpl_HeapOk_L1 k e132_ m) c135_ e132_ b133_ (mset p134_ c135_.gNum (wr.i64 ((mget p134_ c135_.gNum) + 1)))
            else
              (pimpl_follow k e132_ b133_).bind fun b141_ =>
              if (decide (b141_ < 0)) = true then
                some (.ret false)
              else
                pimpl_HeapOk_J2 k (pimpl_HeapOk_L1 k e132_ m) c135_ e132_ b133_ (mset p134_ c135_.gNum (wr.i64 ((mget p134_ c135_.gNum) + 1)))
        else
          pimpl_HeapOk_J2 k (pimpl_HeapOk_L1 k e132_ m) c135_ e132_ b133_ p134_
    else
      some (.done ())
def pimpl_HeapOk_L4 (k : Nat) (e132_ : GHeap) : Nat → Int → Option (Out Bool Unit)
  | 0, _ => none
  | m + 1, b143_ =>
    if (decide (b143_ < (e132_.gTrail.length : Int))) = true then
      (at' e132_.gTrail b143_).bind fun b144_ =>
      (pimpl_isCell k e132_ b144_).bind fun f145_ =>
      if (!f145_) = true then
        some (.ret false)
      else
        (at' e132_.gCells b144_).bind fun c146_ =>
        if (c146_.gKind != 1) = true then
          some (.ret false)
        else
          pimpl_HeapOk_L4 k e132_ m (wr.i64 (b143_ + 1))
    else
      some (.done ())
/-- impl.HeapOk -/
def pimpl_HeapOk (k : Nat) (e132_ : GHeap) : Option Bool :=
  if (decide ((e132_.gCells.length : Int) > 60000)) = true then
    some false
  else
    (pimpl_HeapOk_L1 k e132_ k 0 []).bind fun out1 => match out1 with
    | .ret r => some r
    | .done () =>
      (pimpl_HeapOk_L4 k e132_ k 0).bind fun out4 => match out4 with
      | .ret r => some r
      | .done () =>
        some true
set_option maxHeartbeats 4000000 in
theorem cimpl_HeapOk {k : Nat} {e132_ : GHeap} {r : Bool} (h : pimpl_HeapOk k e132_ = some r) : FnO Try.prog 69 [.v (.agg [.sl (List.map GCell.c e132_.gCells), .sl (List.map cI.i64 e132_.gTrail)]) []] (.v (.bool r) []) [] := by
  refine FnO.of Try.func69 (rfl : Try.f69.body = some _) (Nat.le_of_ble_eq_true (by kernel_rfl)) (Nat.le_of_ble_eq_true (by kernel_rfl)) ?_
  intro w0 X0 Fin pv0 pb
  unfold pimpl_HeapOk at h
  refine Wc.seq ?_
  refine Wc.region [] [] [1] [1] [] ⟨[(1, (.ptr 1 0, []))], [(1, .cells [.sl (List.map GCell.c e132_.gCells), .sl (List.map cI.i64 e132_.gTrail)] [])], []⟩ _ (by kernel_rfl) .nil ?_
  refine Wc.seq ?_
  refine Wc.seq ?_
  refine Wc.region [{}, {}, { v := some (.int .i64 (e132_.gCells.length : Int)) }] [] [1, 13] [1] [] ⟨[(1, (.ptr 1 0, [])), (13, (.v (.bool (decide ((e132_.gCells.length : Int) > 60000))), []))], [(1, .cells [.sl (List.map GCell.c e132_.gCells), .sl (List.map cI.i64 e132_.gTrail)] [])], []⟩ _ (by kernel_rfl) (.cons (len_obl GCell.c e132_.gCells) .nil) ?_
  rcases oif h with ⟨h151, h⟩ | ⟨h151, h⟩
  · refine Wc.condT h151 (by kernel_rfl) ?_
    refine Wc.seq ?_
    refine Wc.region [] [] [2] [] [] ⟨[(2, (.v (.bool false), []))], [], []⟩ _ (by kernel_rfl) .nil ?_
    refine Wc.ret ?_
    obtain rfl := Option.some.inj h
    exact ⟨.inl rfl, by kernel_rfl, by kernel_rfl⟩
  · refine Wc.condF h151 (by kernel_rfl) ?_
    refine Wc.fix (st' := ⟨[(1, (.ptr 1 0, []))], [(1, .cells [.sl (List.map GCell.c e132_.gCells), .sl (List.map cI.i64 e132_.gTrail)] [])], []⟩) [] [1] [1] [] (by kernel_rfl) ?_
    refine Wc.skip ?_
    refine Wc.seq ?_
    refine Wc.region [] [] [1, 3] [1, 14] [] ⟨[(1, (.ptr 1 0, [])), (3, (.mp 14, []))], [(1, .cells [.sl (List.map GCell.c e132_.gCells), .sl (List.map cI.i64 e132_.gTrail)] []), (14, .map (mgk []) (mgv []))], []⟩ _ (by kernel_rfl) .nil ?_
    refine Wc.seq ?_
    refine Wc.seq ?_
    refine Wc.region [{}, {}, { v := some (.int .i64 (e132_.gCells.length : Int)) }] [] [1, 3, 16, 17, 18] [1, 14] [] ⟨[(1, (.ptr 1 0, [])), (3, (.mp 14, [])), (16, (.v (.sl (List.map GCell.c e132_.gCells)), [])), (17, (.v (.int .i64 (e132_.gCells.length : Int)), [])), (18, (.v (.int .i64 0), []))], [(1, .cells [.sl (List.map GCell.c e132_.gCells), .sl (List.map cI.i64 e132_.gTrail)] []), (14, .map (mgk []) (mgv []))], []⟩ _ (by kernel_rfl) (.cons (len_obl GCell.c e132_.gCells) .nil) ?_
    obtain ⟨out1, h152, h⟩ := obind h
    refine Wc.lastJ (fun st => out1 = .done () ∧ st = ⟨[(1, (.ptr 1 0, []))], [(1, .cells [.sl (List.map GCell.c e132_.gCells), .sl (List.map cI.i64 e132_.gTrail)] [])], []⟩) ?_ ?_
    · refine Wc.block ?_
      refine Wc.loop (fun m st => ∃ (b133_ : Int) (p134_ : List (Int × Int)), st = ⟨[(1, (.ptr 1 0, [])), (3, (.mp 14, [])), (16, (.v (.sl (List.map GCell.c e132_.gCells)), [])), (17, (.v (.int .i64 (e132_.gCells.length : Int)), [])), (18, (.v (.int .i64 b133_), []))], [(1, .cells [.sl (List.map GCell.c e132_.gCells), .sl (List.map cI.i64 e132_.gTrail)] []), (14, .map (mgk p134_) (mgv p134_))], []⟩ ∧ pimpl_HeapOk_L1 k e132_ m b133_ p134_ = some out1) ?_ k ⟨_, _, rfl, h152⟩
      rintro m st ⟨b133_, p134_, rfl, h152⟩
      cases m with
      | zero => exact (onone h152).elim
      | succ m =>
        refine Wc.seq ?_
        refine Wc.region [] [] [1, 3, 16, 17, 18, 19] [1, 14] [] ⟨[(1, (.ptr 1 0, [])), (3, (.mp 14, [])), (16, (.v (.sl (List.map GCell.c e132_.gCells)), [])), (17, (.v (.int .i64 (e132_.gCells.length : Int)), [])), (18, (.v (.int .i64 b133_), [])), (19, (.v (.bool (decide (b133_ < (e132_.gCells.length : Int)))), []))], [(1, .cells [.sl (List.map GCell.c e132_.gCells), .sl (List.map cI.i64 e132_.gTrail)] []), (14, .map (mgk p134_) (mgv p134_))], []⟩ _ (by kernel_rfl) .nil ?_
        refine Wc.seq ?_
        rcases oif h152 with ⟨h153, h152⟩ | ⟨h153, h152⟩
        · refine Wc.condT h153 (by kernel_rfl) ?_
          refine Wc.fix (st' := ⟨[(1, (.ptr 1 0, [])), (3, (.mp 14, [])), (16, (.v (.sl (List.map GCell.c e132_.gCells)), [])), (17, (.v (.int .i64 (e132_.gCells.length : Int)), [])), (18, (.v (.int .i64 b133_), []))], [(1, .cells [.sl (List.map GCell.c e132_.gCells), .sl (List.map cI.i64 e132_.gTrail)] []), (14, .map (mgk p134_) (mgv p134_))], []⟩) [] [1, 3, 16, 17, 18] [1, 14] [] (by kernel_rfl) ?_
          refine Wc.skip ?_
          refine Wc.seq ?_
          refine Wc.block ?_
          refine Wc.seq ?_
          obtain ⟨c135_, h154, h152⟩ := obind h152
          refine Wc.region [{}, { v := some (.vptr [.int .i64 c135_.gKind, .str c135_.gName, .int .i64 c135_.gNum, .int .i64 c135_.gTo, .sl (List.map cI.i64 c135_.gKids)]) }] [] [1, 3, 4, 5, 16, 17, 18] [1, 5, 14] [] ⟨[(1, (.ptr 1 0, [])), (3, (.mp 14, [])), (4, (.v (.int .i64 b133_), [])), (5, (.ptr 5 0, [])), (16, (.v (.sl (List.map GCell.c e132_.gCells)), [])), (17, (.v (.int .i64 (e132_.gCells.length : Int)), [])), (18, (.v (.int .i64 b133_), []))], [(1, .cells [.sl (List.map GCell.c e132_.gCells), .sl (List.map cI.i64 e132_.gTrail)] []), (5, .cells [.int .i64 c135_.gKind, .str c135_.gName, .int .i64 c135_.gNum, .int .i64 c135_.gTo, .sl (List.map cI.i64 c135_.gKids)] []), (14, .map (mgk p134_) (mgv p134_))], []⟩ _ (by kernel_rfl) (.cons (at_obl (c := GCell.c) (GCell.c_eq c135_) GCell.c_len h154) (.cons (len_ok 5 [.int .i64 c135_.gKind, .str c135_.gName, .int .i64 c135_.gNum, .int .i64 c135_.gTo, .sl (List.map cI.i64 c135_.gKids)]) .nil)) ?_
          refine Wc.seq ?_
          refine Wc.seq ?_
          obtain ⟨f136_, h155, h152⟩ := obind h152
          refine Wc.region [{}, {}, { r := some (.v (.bool f136_) []) }] [] [1, 3, 4, 5, 16, 17, 18, 26] [1, 5, 14] [] ⟨[(1, (.ptr 1 0, [])), (3, (.mp 14, [])), (4, (.v (.int .i64 b133_), [])), (5, (.ptr 5 0, [])), (16, (.v (.sl (List.map GCell.c e132_.gCells)), [])), (17, (.v (.int .i64 (e132_.gCells.length : Int)), [])), (18, (.v (.int .i64 b133_), [])), (26, (.v (.bool (!f136_)), []))], [(1, .cells [.sl (List.map GCell.c e132_.gCells), .sl (List.map cI.i64 e132_.gTrail)] []), (5, .cells [.int .i64 c135_.gKind, .str c135_.gName, .int .i64 c135_.gNum, .int .i64 c135_.gTo, .sl (List.map cI.i64 c135_.gKids)] []), (14, .map (mgk p134_) (mgv p134_))], []⟩ _ (by kernel_rfl) (.cons (cimpl_within h155) .nil) ?_
          rcases oif h152 with ⟨h156, h152⟩ | ⟨h156, h152⟩
          · refine Wc.condT h156 (by kernel_rfl) ?_
            refine Wc.seq ?_
            refine Wc.region [] [] [2] [] [] ⟨[(2, (.v (.bool false), []))], [], []⟩ _ (by kernel_rfl) .nil ?_
            refine Wc.ret ?_
            obtain rfl := Option.some.inj h152
            obtain rfl := Option.some.inj h
            exact ⟨.inl rfl, by kernel_rfl, by kernel_rfl⟩
          · refine Wc.condF h156 (by kernel_rfl) ?_
            refine Wc.fix (st' := ⟨[(1, (.ptr 1 0, [])), (3, (.mp 14, [])), (4, (.v (.int .i64 b133_), [])), (5, (.ptr 5 0, [])), (16, (.v (.sl (List.map GCell.c e132_.gCells)), [])), (17, (.v (.int .i64 (e132_.gCells.length : Int)), [])), (18, (.v (.int .i64 b133_), []))], [(1, .cells [.sl (List.map GCell.c e132_.gCells), .sl (List.map cI.i64 e132_.gTrail)] []), (5, .cells [.int .i64 c135_.gKind, .str c135_.gName, .int .i64 c135_.gNum, .int .i64 c135_.gTo, .sl (List.map cI.i64 c135_.gKids)] []), (14, .map (mgk p134_) (mgv p134_))], []⟩) [] [1, 3, 4, 5, 16, 17, 18] [1, 5, 14] [] (by kernel_rfl) ?_
            refine Wc.skip ?_
            refine Wc.seqJ (fun st => ∃ (p137_ : List (Int × Int)), st = ⟨[(1, (.ptr 1 0, [])), (3, (.mp 14, [])), (5, (.ptr 5 0, [])), (16, (.v (.sl (List.map GCell.c e132_.gCells)), [])), (17, (.v (.int .i64 (e132_.gCells.length : Int)), [])), (18, (.v (.int .i64 b133_), []))], [(1, .cells [.sl (List.map GCell.c e132_.gCells), .sl (List.map cI.i64 e132_.gTrail)] []), (5, .cells [.int .i64 c135_.gKind, .str c135_.gName, .int .i64 c135_.gNum, .int .i64 c135_.gTo, .sl (List.map cI.i64 c135_.gKids)] []), (14, .map (mgk p137_) (mgv p137_))], []⟩ ∧ pimpl_HeapOk_J2 k (pimpl_HeapOk_L1 k e132_ m) c135_ e132_ b133_ p137_ = some out1) ?_ ?_
            · refine Wc.seq ?_
              refine Wc.region [] [] [1, 3, 4, 5, 16, 17, 18, 29] [1, 5, 14] [] ⟨[(1, (.ptr 1 0, [])), (3, (.mp 14, [])), (4, (.v (.int .i64 b133_), [])), (5, (.ptr 5 0, [])), (16, (.v (.sl (List.map GCell.c e132_.gCells)), [])), (17, (.v (.int .i64 (e132_.gCells.length : Int)), [])), (18, (.v (.int .i64 b133_), [])), (29, (.v (.bool (c135_.gKind == 1)), []))], [(1, .cells [.sl (List.map GCell.c e132_.gCells), .sl (List.map cI.i64 e132_.gTrail)] []), (5, .cells [.int .i64 c135_.gKind, .str c135_.gName, .int .i64 c135_.gNum, .int .i64 c135_.gTo, .sl (List.map cI.i64 c135_.gKids)] []), (14, .map (mgk p134_) (mgv p134_))], []⟩ _ (by kernel_rfl) .nil ?_
              rcases oif h152 with ⟨h162, h152⟩ | ⟨h162, h152⟩
              · refine Wc.condT h162 (by kernel_rfl) ?_
                refine Wc.seq ?_
                refine Wc.region [{}, {}, {}, { v := some (.int .i64 (mget p134_ c135_.gNum)) }, {}, { c := some [mgk (mset p134_ c135_.gNum (wr.i64 ((mget p134_ c135_.gNum) + 1))), mgv (mset p134_ c135_.gNum (wr.i64 ((mget p134_ c135_.gNum) + 1)))] }] [] [1, 3, 4, 5, 16, 17, 18] [1, 5, 14] [] ⟨[(1, (.ptr 1 0, [])), (3, (.mp 14, [])), (4, (.v (.int .i64 b133_), [])), (5, (.ptr 5 0, [])), (16, (.v (.sl (List.map GCell.c e132_.gCells)), [])), (17, (.v (.int .i64 (e132_.gCells.length : Int)), [])), (18, (.v (.int .i64 b133_), []))], [(1, .cells [.sl (List.map GCell.c e132_.gCells), .sl (List.map cI.i64 e132_.gTrail)] []), (5, .cells [.int .i64 c135_.gKind, .str c135_.gName, .int .i64 c135_.gNum, .int .i64 c135_.gTo, .sl (List.map cI.i64 c135_.gKids)] []), (14, .map (mgk (mset p134_ c135_.gNum (wr.i64 ((mget p134_ c135_.gNum) + 1)))) (mgv (mset p134_ c135_.gNum (wr.i64 ((mget p134_ c135_.gNum) + 1)))))], []⟩ _ (by kernel_rfl) (.cons (mapget_obl p134_ c135_.gNum) (.cons (mapset_obl p134_ c135_.gNum (wr.i64 ((mget p134_ c135_.gNum) + 1))) .nil)) ?_
                refine Wc.seq ?_
                rcases oif h152 with ⟨h163, h152⟩ | ⟨h163, h152⟩
                · refine Wc.region [{}, {}, {}, { v := some (.int .i64 (mget (mset p134_ c135_.gNum (wr.i64 ((mget p134_ c135_.gNum) + 1))) c135_.gNum)) }, {}, { re := some (.bool true) }] [] [1, 3, 5, 16, 17, 18, 57] [1, 5, 14] [] ⟨[(1, (.ptr 1 0, [])), (3, (.mp 14, [])), (5, (.ptr 5 0, [])), (16, (.v (.sl (List.map GCell.c e132_.gCells)), [])), (17, (.v (.int .i64 (e132_.gCells.length : Int)), [])), (18, (.v (.int .i64 b133_), [])), (57, (.v (.bool true), []))], [(1, .cells [.sl (List.map GCell.c e132_.gCells), .sl (List.map cI.i64 e132_.gTrail)] []), (5, .cells [.int .i64 c135_.gKind, .str c135_.gName, .int .i64 c135_.gNum, .int .i64 c135_.gTo, .sl (List.map cI.i64 c135_.gKids)] []), (14, .map (mgk (mset p134_ c135_.gNum (wr.i64 ((mget p134_ c135_.gNum) + 1)))) (mgv (mset p134_ c135_.gNum (wr.i64 ((mget p134_ c135_.gNum) + 1)))))], []⟩ _ (by kernel_rfl) (.cons (mapget_obl (mset p134_ c135_.gNum (wr.i64 ((mget p134_ c135_.gNum) + 1))) c135_.gNum) (.cons (congrArg AV.bool h163) .nil)) ?_
                  refine Wc.condT rfl (by kernel_rfl) ?_
                  refine Wc.seq ?_
                  refine Wc.region [] [] [2] [] [] ⟨[(2, (.v (.bool false), []))], [], []⟩ _ (by kernel_rfl) .nil ?_
                  refine Wc.ret ?_
                  obtain rfl := Option.some.inj h152
                  obtain rfl := Option.some.inj h
                  exact ⟨.inl rfl, by kernel_rfl, by kernel_rfl⟩
                · rcases oif h152 with ⟨h164, h152⟩ | ⟨h164, h152⟩
                  · obtain ⟨f141_, h165, h152⟩ := obind h152
                    rcases oif h152 with ⟨h166, h152⟩ | ⟨h166, h152⟩
                    · refine Wc.region [{}, {}, {}, { v := some (.int .i64 (mget (mset p134_ c135_.gNum (wr.i64 ((mget p134_ c135_.gNum) + 1))) c135_.gNum)) }, {}, { re := some (.bool false) }, {}, {}, {}, { re := some (.bool true) }, {}, {}, {}, { r := some (.v (.bool f141_) []) }, {}, {}, {}, { re := some (.bool true) }] [] [1, 3, 5, 16, 17, 18, 57] [1, 5, 14] [] ⟨[(1, (.ptr 1 0, [])), (3, (.mp 14, [])), (5, (.ptr 5 0, [])), (16, (.v (.sl (List.map GCell.c e132_.gCells)), [])), (17, (.v (.int .i64 (e132_.gCells.length : Int)), [])), (18, (.v (.int .i64 b133_), [])), (57, (.v (.bool true), []))], [(1, .cells [.sl (List.map GCell.c e132_.gCells), .sl (List.map cI.i64 e132_.gTrail)] []), (5, .cells [.int .i64 c135_.gKind, .str c135_.gName, .int .i64 c135_.gNum, .int .i64 c135_.gTo, .sl (List.map cI.i64 c135_.gKids)] []), (14, .map (mgk (mset p134_ c135_.gNum (wr.i64 ((mget p134_ c135_.gNum) + 1)))) (mgv (mset p134_ c135_.gNum (wr.i64 ((mget p134_ c135_.gNum) + 1)))))], []⟩ _ (by kernel_rfl) (.cons (mapget_obl (mset p134_ c135_.gNum (wr.i64 ((mget p134_ c135_.gNum) + 1))) c135_.gNum) (.cons (congrArg AV.bool h163) (.cons (congrArg AV.bool h164) (.cons (cimpl_isCell h165) (.cons (congrArg AV.bool h166) .nil))))) ?_
                      refine Wc.condT rfl (by kernel_rfl) ?_
                      refine Wc.seq ?_
                      refine Wc.region [] [] [2] [] [] ⟨[(2, (.v (.bool false), []))], [], []⟩ _ (by kernel_rfl) .nil ?_
                      refine Wc.ret ?_
                      obtain rfl := Option.some.inj h152
                      obtain rfl := Option.some.inj h
                      exact ⟨.inl rfl, by kernel_rfl, by kernel_rfl⟩
                    · obtain ⟨b142_, h167, h152⟩ := obind h152
                      refine Wc.region [{}, {}, {}, { v := some (.int .i64 (mget (mset p134_ c135_.gNum (wr.i64 ((mget p134_ c135_.gNum) + 1))) c135_.gNum)) }, {}, { re := some (.bool false) }, {}, {}, {}, { re := some (.bool true) }, {}, {}, {}, { r := some (.v (.bool f141_) []) }, {}, {}, {}, { re := some (.bool false) }, {}, {}, { r := some (.v (.int .i64 b142_) []) }] [] [1, 3, 5, 16, 17, 18, 57] [1, 5, 14] [] ⟨[(1, (.ptr 1 0, [])), (3, (.mp 14, [])), (5, (.ptr 5 0, [])), (16, (.v (.sl (List.map GCell.c e132_.gCells)), [])), (17, (.v (.int .i64 (e132_.gCells.length : Int)), [])), (18, (.v (.int .i64 b133_), [])), (57, (.v (.bool (decide (b142_ < 0))), []))], [(1, .cells [.sl (List.map GCell.c e132_.gCells), .sl (List.map cI.i64 e132_.gTrail)] []), (5, .cells [.int .i64 c135_.gKind, .str c135_.gName, .int .i64 c135_.gNum, .int .i64 c135_.gTo, .sl (List.map cI.i64 c135_.gKids)] []), (14, .map (mgk (mset p134_ c135_.gNum (wr.i64 ((mget p134_ c135_.gNum) + 1)))) (mgv (mset p134_ c135_.gNum (wr.i64 ((mget p134_ c135_.gNum) + 1)))))], []⟩ _ (by kernel_rfl) (.cons (mapget_obl (mset p134_ c135_.gNum (wr.i64 ((mget p134_ c135_.gNum) + 1))) c135_.gNum) (.cons (congrArg AV.bool h163) (.cons (congrArg AV.bool h164) (.cons (cimpl_isCell h165) (.cons (congrArg AV.bool h166) (.cons (cimpl_follow h167) .nil)))))) ?_
                      rcases oif h152 with ⟨h168, h152⟩ | ⟨h168, h152⟩
                      · refine Wc.condT h168 (by kernel_rfl) ?_
                        refine Wc.seq ?_
                        refine Wc.region [] [] [2] [] [] ⟨[(2, (.v (.bool false), []))], [], []⟩ _ (by kernel_rfl) .nil ?_
                        refine Wc.ret ?_
                        obtain rfl := Option.some.inj h152
                        obtain rfl := Option.some.inj h
                        exact ⟨.inl rfl, by kernel_rfl, by kernel_rfl⟩
                      · refine Wc.condF h168 (by kernel_rfl) ?_
                        refine Wc.fix (st' := ⟨[(1, (.ptr 1 0, [])), (3, (.mp 14, [])), (5, (.ptr 5 0, [])), (16, (.v (.sl (List.map GCell.c e132_.gCells)), [])), (17, (.v (.int .i64 (e132_.gCells.length : Int)), [])), (18, (.v (.int .i64 b133_), []))], [(1, .cells [.sl (List.map GCell.c e132_.gCells), .sl (List.map cI.i64 e132_.gTrail)] []), (5, .cells [.int .i64 c135_.gKind, .str c135_.gName, .int .i64 c135_.gNum, .int .i64 c135_.gTo, .sl (List.map cI.i64 c135_.gKids)] []), (14, .map (mgk (mset p134_ c135_.gNum (wr.i64 ((mget p134_ c135_.gNum) + 1)))) (mgv (mset p134_ c135_.gNum (wr.i64 ((mget p134_ c135_.gNum) + 1)))))], []⟩) [] [1, 3, 5, 16, 17, 18] [1, 5, 14] [] (by kernel_rfl) ?_
                        refine Wc.skip ?_
                        exact ⟨_, rfl, h152⟩
                  · obtain ⟨b141_, h165, h152⟩ := obind h152
                    refine Wc.region [{}, {}, {}, { v := some (.int .i64 (mget (mset p134_ c135_.gNum (wr.i64 ((mget p134_ c135_.gNum) + 1))) c135_.gNum)) }, {}, { re := some (.bool false) }, {}, {}, {}, { re := some (.bool false) }, {}, {}, {}, {}, {}, {}, {}, {}, {}, {}, { r := some (.v (.int .i64 b141_) []) }] [] [1, 3, 5, 16, 17, 18, 57] [1, 5, 14] [] ⟨[(1, (.ptr 1 0, [])), (3, (.mp 14, [])), (5, (.ptr 5 0, [])), (16, (.v (.sl (List.map GCell.c e132_.gCells)), [])), (17, (.v (.int .i64 (e132_.gCells.length : Int)), [])), (18, (.v (.int .i64 b133_), [])), (57, (.v (.bool (decide (b141_ < 0))), []))], [(1, .cells [.sl (List.map GCell.c e132_.gCells), .sl (List.map cI.i64 e132_.gTrail)] []), (5, .cells [.int .i64 c135_.gKind, .str c135_.gName, .int .i64 c135_.gNum, .int .i64 c135_.gTo, .sl (List.map cI.i64 c135_.gKids)] []), (14, .map (mgk (mset p134_ c135_.gNum (wr.i64 ((mget p134_ c135_.gNum) + 1)))) (mgv (mset p134_ c135_.gNum (wr.i64 ((mget p134_ c135_.gNum) + 1)))))], []⟩ _ (by kernel_rfl) (.cons (mapget_obl (mset p134_ c135_.gNum (wr.i64 ((mget p134_ c135_.gNum) + 1))) c135_.gNum) (.cons (congrArg AV.bool h163) (.cons (congrArg AV.bool h164) (.cons (cimpl_follow h165) .nil)))) ?_
                    rcases oif h152 with ⟨h169, h152⟩ | ⟨h169, h152⟩
                    · refine Wc.condT h169 (by kernel_rfl) ?_
                      refine Wc.seq ?_
                      refine Wc.region [] [] [2] [] [] ⟨[(2, (.v (.bool false), []))], [], []⟩ _ (by kernel_rfl) .nil ?_
                      refine Wc.ret ?_
                      obtain rfl := Option.some.inj h152
                      obtain rfl := Option.some.inj h
                      exact ⟨.inl rfl, by kernel_rfl, by kernel_rfl⟩
                    · refine Wc.condF h169 (by kernel_rfl) ?_
                      refine Wc.fix (st' := ⟨[(1, (.ptr 1 0, [])), (3, (.mp 14, [])), (5, (.ptr 5 0, [])), (16, (.v (.sl (List.map GCell.c e132_.gCells)), [])), (17, (.v (.int .i64 (e132_.gCells.length : Int)), [])), (18, (.v (.int .i64 b133_), []))], [(1, .cells [.sl (List.map GCell.c e132_.gCells), .sl (List.map cI.i64 e132_.gTrail)] []), (5, .cells [.int .i64 c135_.gKind, .str c135_.gName, .int .i64 c135_.gNum, .int .i64 c135_.gTo, .sl (List.map cI.i64 c135_.gKids)] []), (14, .map (mgk (mset p134_ c135_.gNum (wr.i64 ((mget p134_ c135_.gNum) + 1)))) (mgv (mset p134_ c135_.gNum (wr.i64 ((mget p134_ c135_.gNum) + 1)))))], []⟩) [] [1, 3, 5, 16, 17, 18] [1, 5, 14] [] (by kernel_rfl) ?_
                      refine Wc.skip ?_
                      exact ⟨_, rfl, h152⟩
              · refine Wc.condF h162 (by kernel_rfl) ?_
                refine Wc.fix (st' := ⟨[(1, (.ptr 1 0, [])), (3, (.mp 14, [])), (5, (.ptr 5 0, [])), (16, (.v (.sl (List.map GCell.c e132_.gCells)), [])), (17, (.v (.int .i64 (e132_.gCells.length : Int)), [])), (18, (.v (.int .i64 b133_), []))], [(1, .cells [.sl (List.map GCell.c e132_.gCells), .sl (List.map cI.i64 e132_.gTrail)] []), (5, .cells [.int .i64 c135_.gKind, .str c135_.gName, .int .i64 c135_.gNum, .int .i64 c135_.gTo, .sl (List.map cI.i64 c135_.gKids)] []), (14, .map (mgk p134_) (mgv p134_))], []⟩) [] [1, 3, 5, 16, 17, 18] [1, 5, 14] [] (by kernel_rfl) ?_
                refine Wc.skip ?_
                exact ⟨_, rfl, h152⟩
            · rintro st ⟨p137_, rfl, h152⟩
              refine Wc.seq ?_
              refine Wc.region [{}, {}, { v := some (.int .i64 (c135_.gKids.length : Int)) }] [] [1, 3, 16, 17, 18, 59, 60, 61] [1, 14] [] ⟨[(1, (.ptr 1 0, [])), (3, (.mp 14, [])), (16, (.v (.sl (List.map GCell.c e132_.gCells)), [])), (17, (.v (.int .i64 (e132_.gCells.length : Int)), [])), (18, (.v (.int .i64 b133_), [])), (59, (.v (.sl (List.map cI.i64 c135_.gKids)), [])), (60, (.v (.int .i64 (c135_.gKids.length : Int)), [])), (61, (.v (.int .i64 0), []))], [(1, .cells [.sl (List.map GCell.c e132_.gCells), .sl (List.map cI.i64 e132_.gTrail)] []), (14, .map (mgk p137_) (mgv p137_))], []⟩ _ (by kernel_rfl) (.cons (len_obl cI.i64 c135_.gKids) .nil) ?_
              obtain ⟨out3, h157, h152⟩ := obind h152
              refine Wc.lastJ (fun st => out3 = .done () ∧ st = ⟨[(1, (.ptr 1 0, [])), (3, (.mp 14, [])), (16, (.v (.sl (List.map GCell.c e132_.gCells)), [])), (17, (.v (.int .i64 (e132_.gCells.length : Int)), [])), (18, (.v (.int .i64 b133_), []))], [(1, .cells [.sl (List.map GCell.c e132_.gCells), .sl (List.map cI.i64 e132_.gTrail)] []), (14, .map (mgk p137_) (mgv p137_))], []⟩) ?_ ?_
              · refine Wc.block ?_
                refine Wc.loop (fun m st => ∃ (b138_ : Int), st = ⟨[(1, (.ptr 1 0, [])), (3, (.mp 14, [])), (16, (.v (.sl (List.map GCell.c e132_.gCells)), [])), (17, (.v (.int .i64 (e132_.gCells.length : Int)), [])), (18, (.v (.int .i64 b133_), [])), (59, (.v (.sl (List.map cI.i64 c135_.gKids)), [])), (60, (.v (.int .i64 (c135_.gKids.length : Int)), [])), (61, (.v (.int .i64 b138_), []))], [(1, .cells [.sl (List.map GCell.c e132_.gCells), .sl (List.map cI.i64 e132_.gTrail)] []), (14, .map (mgk p137_) (mgv p137_))], []⟩ ∧ pimpl_HeapOk_L3 k c135_ e132_ m b138_ = some out3) ?_ k ⟨_, rfl, h157⟩
                rintro m st ⟨b138_, rfl, h157⟩
                cases m with
                | zero => exact (onone h157).elim
                | succ m =>
                  refine Wc.seq ?_
                  refine Wc.region [] [] [1, 3, 16, 17, 18, 59, 60, 61, 62] [1, 14] [] ⟨[(1, (.ptr 1 0, [])), (3, (.mp 14, [])), (16, (.v (.sl (List.map GCell.c e132_.gCells)), [])), (17, (.v (.int .i64 (e132_.gCells.length : Int)), [])), (18, (.v (.int .i64 b133_), [])), (59, (.v (.sl (List.map cI.i64 c135_.gKids)), [])), (60, (.v (.int .i64 (c135_.gKids.length : Int)), [])), (61, (.v (.int .i64 b138_), [])), (62, (.v (.bool (decide (b138_ < (c135_.gKids.length : Int)))), []))], [(1, .cells [.sl (List.map GCell.c e132_.gCells), .sl (List.map cI.i64 e132_.gTrail)] []), (14, .map (mgk p137_) (mgv p137_))], []⟩ _ (by kernel_rfl) .nil ?_
                  refine Wc.seq ?_
                  rcases oif h157 with ⟨h158, h157⟩ | ⟨h158, h157⟩
                  · refine Wc.condT h158 (by kernel_rfl) ?_
                    refine Wc.fix (st' := ⟨[(1, (.ptr 1 0, [])), (3, (.mp 14, [])), (16, (.v (.sl (List.map GCell.c e132_.gCells)), [])), (17, (.v (.int .i64 (e132_.gCells.length : Int)), [])), (18, (.v (.int .i64 b133_), [])), (59, (.v (.sl (List.map cI.i64 c135_.gKids)), [])), (60, (.v (.int .i64 (c135_.gKids.length : Int)), [])), (61, (.v (.int .i64 b138_), []))], [(1, .cells [.sl (List.map GCell.c e132_.gCells), .sl (List.map cI.i64 e132_.gTrail)] []), (14, .map (mgk p137_) (mgv p137_))], []⟩) [] [1, 3, 16, 17, 18, 59, 60, 61] [1, 14] [] (by kernel_rfl) ?_
                    refine Wc.skip ?_
                    refine Wc.seq ?_
                    refine Wc.block ?_
                    refine Wc.seq ?_
                    obtain ⟨b139_, h159, h157⟩ := obind h157
                    refine Wc.region [{ v := some (.vptr [.int .i64 b139_]) }] [] [1, 3, 7, 16, 17, 18, 59, 60, 61] [1, 14] [] ⟨[(1, (.ptr 1 0, [])), (3, (.mp 14, [])), (7, (.v (.int .i64 b139_), [])), (16, (.v (.sl (List.map GCell.c e132_.gCells)), [])), (17, (.v (.int .i64 (e132_.gCells.length : Int)), [])), (18, (.v (.int .i64 b133_), [])), (59, (.v (.sl (List.map cI.i64 c135_.gKids)), [])), (60, (.v (.int .i64 (c135_.gKids.length : Int)), [])), (61, (.v (.int .i64 b138_), []))], [(1, .cells [.sl (List.map GCell.c e132_.gCells), .sl (List.map cI.i64 e132_.gTrail)] []), (14, .map (mgk p137_) (mgv p137_))], []⟩ _ (by kernel_rfl) (.cons (at_obl (c := cI.i64) rfl cI.i64_len h159) (.cons (len_ok 1 [.int .i64 b139_]) .nil)) ?_
                    refine Wc.seq ?_
                    obtain ⟨f140_, h160, h157⟩ := obind h157
                    refine Wc.region [{}, {}, { r := some (.v (.bool f140_) []) }] [] [1, 3, 16, 17, 18, 59, 60, 61, 68] [1, 14] [] ⟨[(1, (.ptr 1 0, [])), (3, (.mp 14, [])), (16, (.v (.sl (List.map GCell.c e132_.gCells)), [])), (17, (.v (.int .i64 (e132_.gCells.length : Int)), [])), (18, (.v (.int .i64 b133_), [])), (59, (.v (.sl (List.map cI.i64 c135_.gKids)), [])), (60, (.v (.int .i64 (c135_.gKids.length : Int)), [])), (61, (.v (.int .i64 b138_), [])), (68, (.v (.bool (!f140_)), []))], [(1, .cells [.sl (List.map GCell.c e132_.gCells), .sl (List.map cI.i64 e132_.gTrail)] []), (14, .map (mgk p137_) (mgv p137_))], []⟩ _ (by kernel_rfl) (.cons (cimpl_isCell h160) .nil) ?_
                    rcases oif h157 with ⟨h161, h157⟩ | ⟨h161, h157⟩
                    · refine Wc.condT h161 (by kernel_rfl) ?_
                      refine Wc.seq ?_
                      refine Wc.region [] [] [2] [] [] ⟨[(2, (.v (.bool false), []))], [], []⟩ _ (by kernel_rfl) .nil ?_
                      refine Wc.ret ?_
                      obtain rfl := Option.some.inj h157
                      obtain rfl := Option.some.inj h152
                      obtain rfl := Option.some.inj h
                      exact ⟨.inl rfl, by kernel_rfl, by kernel_rfl⟩
                    · refine Wc.condF h161 (by kernel_rfl) ?_
                      refine Wc.fix (st' := ⟨[(1, (.ptr 1 0, [])), (3, (.mp 14, [])), (16, (.v (.sl (List.map GCell.c e132_.gCells)), [])), (17, (.v (.int .i64 (e132_.gCells.length : Int)), [])), (18, (.v (.int .i64 b133_), [])), (59, (.v (.sl (List.map cI.i64 c135_.gKids)), [])), (60, (.v (.int .i64 (c135_.gKids.length : Int)), [])), (61, (.v (.int .i64 b138_), []))], [(1, .cells [.sl (List.map GCell.c e132_.gCells), .sl (List.map cI.i64 e132_.gTrail)] []), (14, .map (mgk p137_) (mgv p137_))], []⟩) [] [1, 3, 16, 17, 18, 59, 60, 61] [1, 14] [] (by kernel_rfl) ?_
                      refine Wc.skip ?_
                      refine Wc.region [] [] [1, 3, 16, 17, 18, 59, 60, 61] [1, 14] [] ⟨[(1, (.ptr 1 0, [])), (3, (.mp 14, [])), (16, (.v (.sl (List.map GCell.c e132_.gCells)), [])), (17, (.v (.int .i64 (e132_.gCells.length : Int)), [])), (18, (.v (.int .i64 b133_), [])), (59, (.v (.sl (List.map cI.i64 c135_.gKids)), [])), (60, (.v (.int .i64 (c135_.gKids.length : Int)), [])), (61, (.v (.int .i64 (wr.i64 (b138_ + 1))), []))], [(1, .cells [.sl (List.map GCell.c e132_.gCells), .sl (List.map cI.i64 e132_.gTrail)] []), (14, .map (mgk p137_) (mgv p137_))], []⟩ _ (by kernel_rfl) .nil ?_
                      exact ⟨_, Nat.lt_succ_self _, _, rfl, h157⟩
                  · refine Wc.condF h158 (by kernel_rfl) ?_
                    refine Wc.fix (st' := ⟨[(1, (.ptr 1 0, [])), (3, (.mp 14, [])), (16, (.v (.sl (List.map GCell.c e132_.gCells)), [])), (17, (.v (.int .i64 (e132_.gCells.length : Int)), [])), (18, (.v (.int .i64 b133_), []))], [(1, .cells [.sl (List.map GCell.c e132_.gCells), .sl (List.map cI.i64 e132_.gTrail)] []), (14, .map (mgk p137_) (mgv p137_))], []⟩) [] [1, 3, 16, 17, 18] [1, 14] [] (by kernel_rfl) ?_
                    refine Wc.exit ?_
                    obtain rfl := Option.some.inj h157
                    exact ⟨rfl, rfl⟩
              · rintro st ⟨rfl, rfl⟩
                refine Wc.region [] [] [1, 3, 16, 17, 18] [1, 14] [] ⟨[(1, (.ptr 1 0, [])), (3, (.mp 14, [])), (16, (.v (.sl (List.map GCell.c e132_.gCells)), [])), (17, (.v (.int .i64 (e132_.gCells.length : Int)), [])), (18, (.v (.int .i64 (wr.i64 (b133_ + 1))), []))], [(1, .cells [.sl (List.map GCell.c e132_.gCells), .sl (List.map cI.i64 e132_.gTrail)] []), (14, .map (mgk p137_) (mgv p137_))], []⟩ _ (by kernel_rfl) .nil ?_
                exact ⟨_, Nat.lt_succ_self _, _, _, rfl, h152⟩
        · refine Wc.condF h153 (by kernel_rfl) ?_
          refine Wc.fix (st' := ⟨[(1, (.ptr 1 0, []))], [(1, .cells [.sl (List.map GCell.c e132_.gCells), .sl (List.map cI.i64 e132_.gTrail)] [])], []⟩) [] [1] [1] [] (by kernel_rfl) ?_
          refine Wc.exit ?_
          obtain rfl := Option.some.inj h152
          exact ⟨rfl, rfl⟩
    · rintro st ⟨rfl, rfl⟩
      refine Wc.seq ?_
      refine Wc.seq ?_
      refine Wc.region [{}, {}, { v := some (.int .i64 (e132_.gTrail.length : Int)) }] [] [1, 72, 73, 74] [1] [] ⟨[(1, (.ptr 1 0, [])), (72, (.v (.sl (List.map cI.i64 e132_.gTrail)), [])), (73, (.v (.int .i64 (e132_.gTrail.length : Int)), [])), (74, (.v (.int .i64 0), []))], [(1, .cells [.sl (List.map GCell.c e132_.gCells), .sl (List.map cI.i64 e132_.gTrail)] [])], []⟩ _ (by kernel_rfl) (.cons (len_obl cI.i64 e132_.gTrail) .nil) ?_
      obtain ⟨out4, h170, h⟩ := obind h
      refine Wc.lastJ (fun st => out4 = .done () ∧ st = ⟨[], [], []⟩) ?_ ?_
      · refine Wc.block ?_
        refine Wc.loop (fun m st => ∃ (b143_ : Int), st = ⟨[(1, (.ptr 1 0, [])), (72, (.v (.sl (List.map cI.i64 e132_.gTrail)), [])), (73, (.v (.int .i64 (e132_.gTrail.length : Int)), [])), (74, (.v (.int .i64 b143_), []))], [(1, .cells [.sl (List.map GCell.c e132_.gCells), .sl (List.map cI.i64 e132_.gTrail)] [])], []⟩ ∧ pimpl_HeapOk_L4 k e132_ m b143_ = some out4) ?_ k ⟨_, rfl, h170⟩
        rintro m st ⟨b143_, rfl, h170⟩
        cases m with
        | zero => exact (onone h170).elim
        | succ m =>
          refine Wc.seq ?_
          refine Wc.region [] [] [1, 72, 73, 74, 75] [1] [] ⟨[(1, (.ptr 1 0, [])), (72, (.v (.sl (List.map cI.i64 e132_.gTrail)), [])), (73, (.v (.int .i64 (e132_.gTrail.length : Int)), [])), (74, (.v (.int .i64 b143_), [])), (75, (.v (.bool (decide (b143_ < (e132_.gTrail.length : Int)))), []))], [(1, .cells [.sl (List.map GCell.c e132_.gCells), .sl (List.map cI.i64 e132_.gTrail)] [])], []⟩ _ (by kernel_rfl) .nil ?_
          refine Wc.seq ?_
          rcases oif h170 with ⟨h171, h170⟩ | ⟨h171, h170⟩
          · refine Wc.condT h171 (by kernel_rfl) ?_
            refine Wc.fix (st' := ⟨[(1, (.ptr 1 0, [])), (72, (.v (.sl (List.map cI.i64 e132_.gTrail)), [])), (73, (.v (.int .i64 (e132_.gTrail.length : Int)), [])), (74, (.v (.int .i64 b143_), []))], [(1, .cells [.sl (List.map GCell.c e132_.gCells), .sl (List.map cI.i64 e132_.gTrail)] [])], []⟩) [] [1, 72, 73, 74] [1] [] (by kernel_rfl) ?_
            refine Wc.skip ?_
            refine Wc.seq ?_
            refine Wc.block ?_
            refine Wc.seq ?_
            obtain ⟨b144_, h172, h170⟩ := obind h170
            refine Wc.region [{ v := some (.vptr [.int .i64 b144_]) }] [] [1, 9, 72, 73, 74] [1] [] ⟨[(1, (.ptr 1 0, [])), (9, (.v (.int .i64 b144_), [])), (72, (.v (.sl (List.map cI.i64 e132_.gTrail)), [])), (73, (.v (.int .i64 (e132_.gTrail.length : Int)), [])), (74, (.v (.int .i64 b143_), []))], [(1, .cells [.sl (List.map GCell.c e132_.gCells), .sl (List.map cI.i64 e132_.gTrail)] [])], []⟩ _ (by kernel_rfl) (.cons (at_obl (c := cI.i64) rfl cI.i64_len h172) (.cons (len_ok 1 [.int .i64 b144_]) .nil)) ?_
            refine Wc.seq ?_
            obtain ⟨f145_, h173, h170⟩ := obind h170
            rcases oif h170 with ⟨h174, h170⟩ | ⟨h174, h170⟩
            · refine Wc.region [{}, {}, { r := some (.v (.bool f145_) []) }, {}, { re := some (.bool true) }] [] [1, 72, 73, 74, 90] [1] [] ⟨[(1, (.ptr 1 0, [])), (72, (.v (.sl (List.map cI.i64 e132_.gTrail)), [])), (73, (.v (.int .i64 (e132_.gTrail.length : Int)), [])), (74, (.v (.int .i64 b143_), [])), (90, (.v (.bool true), []))], [(1, .cells [.sl (List.map GCell.c e132_.gCells), .sl (List.map cI.i64 e132_.gTrail)] [])], []⟩ _ (by kernel_rfl) (.cons (cimpl_isCell h173) (.cons (congrArg AV.bool h174) .nil)) ?_
              refine Wc.condT rfl (by kernel_rfl) ?_
              refine Wc.seq ?_
              refine Wc.region [] [] [2] [] [] ⟨[(2, (.v (.bool false), []))], [], []⟩ _ (by kernel_rfl) .nil ?_
              refine Wc.ret ?_
              obtain rfl := Option.some.inj h170
              obtain rfl := Option.some.inj h
              exact ⟨.inl rfl, by kernel_rfl, by kernel_rfl⟩
            · obtain ⟨c146_, h175, h170⟩ := obind h170
              refine Wc.region [{}, {}, { r := some (.v (.bool f145_) []) }, {}, { re := some (.bool false) }, {}, {}, {}, { v := some (.vptr [.int .i64 c146_.gKind, .str c146_.gName, .int .i64 c146_.gNum, .int .i64 c146_.gTo, .sl (List.map cI.i64 c146_.gKids)]) }] [] [1, 72, 73, 74, 90] [1] [] ⟨[(1, (.ptr 1 0, [])), (72, (.v (.sl (List.map cI.i64 e132_.gTrail)), [])), (73, (.v (.int .i64 (e132_.gTrail.length : Int)), [])), (74, (.v (.int .i64 b143_), [])), (90, (.v (.bool (c146_.gKind != 1)), []))], [(1, .cells [.sl (List.map GCell.c e132_.gCells), .sl (List.map cI.i64 e132_.gTrail)] [])], []⟩ _ (by kernel_rfl) (.cons (cimpl_isCell h173) (.cons (congrArg AV.bool h174) (.cons (at_obl (c := GCell.c) (GCell.c_eq c146_) GCell.c_len h175) (.cons (len_ok 1 [.int .i64 c146_.gKind, .str c146_.gName, .int .i64 c146_.gNum, .int .i64 c146_.gTo, .sl (List.map cI.i64 c146_.gKids)]) .nil)))) ?_
              rcases oif h170 with ⟨h176, h170⟩ | ⟨h176, h170⟩
              · refine Wc.condT h176 (by kernel_rfl) ?_
                refine Wc.seq ?_
                refine Wc.region [] [] [2] [] [] ⟨[(2, (.v (.bool false), []))], [], []⟩ _ (by kernel_rfl) .nil ?_
                refine Wc.ret ?_
                obtain rfl := Option.some.inj h170
                obtain rfl := Option.some.inj h
                exact ⟨.inl rfl, by kernel_rfl, by kernel_rfl⟩
              · refine Wc.condF h176 (by kernel_rfl) ?_
                refine Wc.fix (st' := ⟨[(1, (.ptr 1 0, [])), (72, (.v (.sl (List.map cI.i64 e132_.gTrail)), [])), (73, (.v (.int .i64 (e132_.gTrail.length : Int)), [])), (74, (.v (.int .i64 b143_), []))], [(1, .cells [.sl (List.map GCell.c e132_.gCells), .sl (List.map cI.i64 e132_.gTrail)] [])], []⟩) [] [1, 72, 73, 74] [1] [] (by kernel_rfl) ?_
                refine Wc.skip ?_
                refine Wc.region [] [] [1, 72, 73, 74] [1] [] ⟨[(1, (.ptr 1 0, [])), (72, (.v (.sl (List.map cI.i64 e132_.gTrail)), [])), (73, (.v (.int .i64 (e132_.gTrail.length : Int)), [])), (74, (.v (.int .i64 (wr.i64 (b143_ + 1))), []))], [(1, .cells [.sl (List.map GCell.c e132_.gCells), .sl (List.map cI.i64 e132_.gTrail)] [])], []⟩ _ (by kernel_rfl) .nil ?_
                exact ⟨_, Nat.lt_succ_self _, _, rfl, h170⟩
          · refine Wc.condF h171 (by kernel_rfl) ?_
            refine Wc.fix (st' := ⟨[], [], []⟩) [] [] [] [] (by kernel_rfl) ?_
            refine Wc.exit ?_
            obtain rfl := Option.some.inj h170
            exact ⟨rfl, rfl⟩
      · rintro st ⟨rfl, rfl⟩
        refine Wc.seq ?_
        refine Wc.region [] [] [2] [] [] ⟨[(2, (.v (.bool true), []))], [], []⟩ _ (by kernel_rfl) .nil ?_
        refine Wc.ret ?_
        obtain rfl := Option.some.inj h
        exact ⟨.inl rfl, by kernel_rfl, by kernel_rfl⟩

def pimpl_nameOk_L1 (k : Nat) (g147_ : ByteArray) : Nat → Int → Option (Out Bool Unit)
  | 0, _ => none
  | m + 1, b148_ =>
    if (decide (b148_ < (g147_.size : Int))) = true then
      if 0 ≤ b148_ ∧ (b148_).toNat < g147_.size then
        (pimpl_within k (wr.i64 (bt g147_ b148_)) 33 126).bind fun f149_ =>
        if (!f149_) = true then
          some (.ret false)
        else
          if 0 ≤ b148_ ∧ (b148_).toNat < g147_.size then
            if ((bt g147_ b148_) == 39) = true then
              some (.ret false)
            else
              if 0 ≤ b148_ ∧ (b148_).toNat < g147_.size then
                if ((bt g147_ b148_) == 34) = true then
                  some (.ret false)
                else
                  pimpl_nameOk_L1 k g147_ m (wr.i64 (b148_ + 1))
              else none
          else none
      else none
    else
      some (.done ())
/-- impl.nameOk -/
def pimpl_nameOk (k : Nat) (g147_ : ByteArray) : Option Bool :=
  (pimpl_nameOk_L1 k g147_ k 0).bind fun out1 => match out1 with
  | .ret r => some r
  | .done () =>
    (pimpl_within k (g147_.size : Int) 1 20).bind fun f150_ =>
    some f150_
theorem cimpl_nameOk {k : Nat} {g147_ : ByteArray} {r : Bool} (h : pimpl_nameOk k g147_ = some r) : FnO Try.prog 145 [.v (.str g147_) []] (.v (.bool r) []) [] := by
  refine FnO.of Try.func145 (rfl : Try.f145.body = some _) (Nat.le_of_ble_eq_true (by kernel_rfl)) (Nat.le_of_ble_eq_true (by kernel_rfl)) ?_
  intro w0 X0 Fin pv0 pb
  unfold pimpl_nameOk at h
  refine Wc.seq ?_
  refine Wc.region [] [] [0] [] [] ⟨[(0, (.v (.str g147_), []))], [], []⟩ _ (by kernel_rfl) .nil ?_
  refine Wc.seq ?_
  refine Wc.seq ?_
  refine Wc.region [] [] [0, 3] [] [] ⟨[(0, (.v (.str g147_), [])), (3, (.v (.int .i64 0), []))], [], []⟩ _ (by kernel_rfl) .nil ?_
  obtain ⟨out1, h177, h⟩ := obind h
  refine Wc.lastJ (fun st => out1 = .done () ∧ st = ⟨[(0, (.v (.str g147_), []))], [], []⟩) ?_ ?_
  · refine Wc.block ?_
    refine Wc.loop (fun m st => ∃ (b148_ : Int), st = ⟨[(0, (.v (.str g147_), [])), (3, (.v (.int .i64 b148_), []))], [], []⟩ ∧ pimpl_nameOk_L1 k g147_ m b148_ = some out1) ?_ k ⟨_, rfl, h177⟩
    rintro m st ⟨b148_, rfl, h177⟩
    cases m with
    | zero => exact (onone h177).elim
    | succ m =>
      refine Wc.seq ?_
      refine Wc.seq ?_
      refine Wc.region [] [] [0, 3, 7] [] [] ⟨[(0, (.v (.str g147_), [])), (3, (.v (.int .i64 b148_), [])), (7, (.v (.bool (decide (b148_ < (g147_.size : Int)))), []))], [], []⟩ _ (by kernel_rfl) .nil ?_
      rcases oif h177 with ⟨h178, h177⟩ | ⟨h178, h177⟩
      · refine Wc.condT h178 (by kernel_rfl) ?_
        refine Wc.fix (st' := ⟨[(0, (.v (.str g147_), [])), (3, (.v (.int .i64 b148_), []))], [], []⟩) [] [0, 3] [] [] (by kernel_rfl) ?_
        refine Wc.skip ?_
        refine Wc.seq ?_
        refine Wc.block ?_
        refine Wc.seq ?_
        obtain ⟨h179, h177⟩ := oguard h177
        obtain ⟨f149_, h180, h177⟩ := obind h177
        rcases oif h177 with ⟨h181, h177⟩ | ⟨h181, h177⟩
        · refine Wc.region [{}, {}, {}, {}, { r := some (.v (.bool f149_) []) }, {}, { re := some (.bool true) }] [] [0, 3, 27] [] [] ⟨[(0, (.v (.str g147_), [])), (3, (.v (.int .i64 b148_), [])), (27, (.v (.bool true), []))], [], []⟩ _ (by kernel_rfl) (.cons h179 (.cons (cimpl_within h180) (.cons (congrArg AV.bool h181) .nil))) ?_
          refine Wc.condT rfl (by kernel_rfl) ?_
          refine Wc.seq ?_
          refine Wc.region [] [] [2] [] [] ⟨[(2, (.v (.bool false), []))], [], []⟩ _ (by kernel_rfl) .nil ?_
          refine Wc.ret ?_
          obtain rfl := Option.some.inj h177
          obtain rfl := Option.some.inj h
          exact ⟨.inl rfl, by kernel_rfl, by kernel_rfl⟩
        · obtain ⟨h182, h177⟩ := oguard h177
          rcases oif h177 with ⟨h183, h177⟩ | ⟨h183, h177⟩
          · refine Wc.region [{}, {}, {}, {}, { r := some (.v (.bool f149_) []) }, {}, { re := some (.bool false) }, {}, {}, {}, {}, {}, { re := some (.bool true) }] [] [0, 3, 27] [] [] ⟨[(0, (.v (.str g147_), [])), (3, (.v (.int .i64 b148_), [])), (27, (.v (.bool true), []))], [], []⟩ _ (by kernel_rfl) (.cons h179 (.cons (cimpl_within h180) (.cons (congrArg AV.bool h181) (.cons h182 (.cons (congrArg AV.bool h183) .nil))))) ?_
            refine Wc.condT rfl (by kernel_rfl) ?_
            refine Wc.seq ?_
            refine Wc.region [] [] [2] [] [] ⟨[(2, (.v (.bool false), []))], [], []⟩ _ (by kernel_rfl) .nil ?_
            refine Wc.ret ?_
            obtain rfl := Option.some.inj h177
            obtain rfl := Option.some.inj h
            exact ⟨.inl rfl, by kernel_rfl, by kernel_rfl⟩
          · obtain ⟨h184, h177⟩ := oguard h177
            refine Wc.region [{}, {}, {}, {}, { r := some (.v (.bool f149_) []) }, {}, { re := some (.bool false) }, {}, {}, {}, {}, {}, { re := some (.bool false) }] [] [0, 3, 27] [] [] ⟨[(0, (.v (.str g147_), [])), (3, (.v (.int .i64 b148_), [])), (27, (.v (.bool ((bt g147_ b148_) == 34)), []))], [], []⟩ _ (by kernel_rfl) (.cons h179 (.cons (cimpl_within h180) (.cons (congrArg AV.bool h181) (.cons h182 (.cons (congrArg AV.bool h183) (.cons h184 .nil)))))) ?_
            rcases oif h177 with ⟨h185, h177⟩ | ⟨h185, h177⟩
            · refine Wc.condT h185 (by kernel_rfl) ?_
              refine Wc.seq ?_
              refine Wc.region [] [] [2] [] [] ⟨[(2, (.v (.bool false), []))], [], []⟩ _ (by kernel_rfl) .nil ?_
              refine Wc.ret ?_
              obtain rfl := Option.some.inj h177
              obtain rfl := Option.some.inj h
              exact ⟨.inl rfl, by kernel_rfl, by kernel_rfl⟩
            · refine Wc.condF h185 (by kernel_rfl) ?_
              refine Wc.fix (st' := ⟨[(0, (.v (.str g147_), [])), (3, (.v (.int .i64 b148_), []))], [], []⟩) [] [0, 3] [] [] (by kernel_rfl) ?_
              refine Wc.skip ?_
              refine Wc.region [] [] [0, 3] [] [] ⟨[(0, (.v (.str g147_), [])), (3, (.v (.int .i64 (wr.i64 (b148_ + 1))), []))], [], []⟩ _ (by kernel_rfl) .nil ?_
              exact ⟨_, Nat.lt_succ_self _, _, rfl, h177⟩
      · refine Wc.condF h178 (by kernel_rfl) ?_
        refine Wc.fix (st' := ⟨[(0, (.v (.str g147_), []))], [], []⟩) [] [0] [] [] (by kernel_rfl) ?_
        refine Wc.exit ?_
        obtain rfl := Option.some.inj h177
        exact ⟨rfl, rfl⟩
  · rintro st ⟨rfl, rfl⟩
    refine Wc.seq ?_
    obtain ⟨f150_, h186, h⟩ := obind h
    refine Wc.region [{}, {}, { r := some (.v (.bool f150_) []) }] [] [2] [] [] ⟨[(2, (.v (.bool f150_), []))], [], []⟩ _ (by kernel_rfl) (.cons (cimpl_within h186) .nil) ?_
    refine Wc.ret ?_
    obtain rfl := Option.some.inj h
    exact ⟨.inl rfl, by kernel_rfl, by kernel_rfl⟩

def pimpl_sized_L2 (k : Nat) (rimpl_sized : GTerm → Int → Option Int) (i151_ : GTerm) (b152_ : Int) : Nat → Int → Int → Option (Out Int Int)
  | 0, _, _ => none
  | m + 1, b153_, b154_ =>
    if (decide (b154_ < (i151_.gKids.length : Int))) = true then
      (at' i151_.gKids b154_).bind fun i156_ =>
      (rimpl_sized i156_ (wr.i64 (b152_ + 1))).bind fun b157_ =>
      if (decide ((wr.i64 (b153_ + b157_)) > 400)) = true then
        some (.ret 401)
      else
        pimpl_sized_L2 k rimpl_sized i151_ b152_ m (wr.i64 (b153_ + b157_)) (wr.i64 (b154_ + 1))
    else
      some (.done b153_)
def pimpl_sized_J1 (k : Nat) (rimpl_sized : GTerm → Int → Option Int) (i151_ : GTerm) (b152_ : Int) : Option Int :=
  (pimpl_sized_L2 k rimpl_sized i151_ b152_ k 1 0).bind fun out2 => match out2 with
  | .ret r => some r
  | .done b155_ =>
    some b155_
mutual
/-- impl.sized -/
def pimpl_sized : Nat → GTerm → Int → Option Int
  | 0, _, _ => none
  | k + 1, i151_, b152_ =>
    if (decide (b152_ > 40)) = true then
      some 401
    else
      if (i151_.gKind == 1) = true then
        if (!(sEq i151_.gName (bs []))) = true then
          some 401
        else
          (pimpl_within k i151_.gNum 0 99999).bind fun f158_ =>
          if (!f158_) = true then
            some 401
          else
            if (decide ((i151_.gKids.length : Int) > 0)) = true then
              some 401
            else
              pimpl_sized_J1 k (pimpl_sized k) i151_ b152_
      else
        if (i151_.gKind == 2) = true then
          (pimpl_nameOk k i151_.gName).bind fun f159_ =>
          if (!f159_) = true then
            some 401
          else
            if (i151_.gNum != 0) = true then
              some 401
            else
              if (decide ((i151_.gKids.length : Int) > 0)) = true then
                some 401
              else
                pimpl_sized_J1 k (pimpl_sized k) i151_ b152_
        else
          if (i151_.gKind == 3) = true then
            if (!(sEq i151_.gName (bs []))) = true then
              some 401
            else
              (pimpl_within k i151_.gNum (-999999999) 999999999).bind fun f160_ =>
              if (!f160_) = true then
                some 401
              else
                if (decide ((i151_.gKids.length : Int) > 0)) = true then
                  some 401
                else
                  pimpl_sized_J1 k (pimpl_sized k) i151_ b152_
          else
            if (i151_.gKind == 4) = true then
              (pimpl_nameOk k i151_.gName).bind fun f161_ =>
              if (!f161_) = true then
                some 401
              else
                if (i151_.gNum != 0) = true then
                  some 401
                else
                  (pimpl_within k (i151_.gKids.length : Int) 1 5).bind fun f162_ =>
                  if (!f162_) = true then
                    some 401
                  else
                    pimpl_sized_J1 k (pimpl_sized k) i151_ b152_
            else
              some 401
end
set_option maxHeartbeats 4000000 in
theorem all_pimpl_sized : ∀ k : Nat, (∀ {i151_ : GTerm} {b152_ : Int} {r : Int}, pimpl_sized k i151_ b152_ = some r → FnO Try.prog 125 [.v (.agg [.int .i64 i151_.gKind, .str i151_.gName, .int .i64 i151_.gNum, .sl (List.map GTerm.c i151_.gKids)]) [], .v (.int .i64 b152_) []] (.v (.int .i64 r) []) []) := by
  intro k
  induction k with
  | zero =>
    · intro i151_ b152_ r h
      exact (onone (by rw [pimpl_sized] at h; exact h)).elim
  | succ k ih =>
    have ih_pimpl_sized := @ih
    · intro i151_ b152_ r h
      rw [pimpl_sized] at h
      refine FnO.of Try.func125 (rfl : Try.f125.body = some _) (Nat.le_of_ble_eq_true (by kernel_rfl)) (Nat.le_of_ble_eq_true (by kernel_rfl)) ?_
      intro w0 X0 Fin pv0 pb
      refine Wc.seq ?_
      refine Wc.region [] [] [1, 2] [2] [] ⟨[(1, (.v (.int .i64 b152_), [])), (2, (.ptr 2 0, []))], [(2, .cells [.int .i64 i151_.gKind, .str i151_.gName, .int .i64 i151_.gNum, .sl (List.map GTerm.c i151_.gKids)] [])], []⟩ _ (by kernel_rfl) .nil ?_
      refine Wc.seq ?_
      refine Wc.seq ?_
      refine Wc.region [] [] [1, 2, 9] [2] [] ⟨[(1, (.v (.int .i64 b152_), [])), (2, (.ptr 2 0, [])), (9, (.v (.bool (decide (b152_ > 40))), []))], [(2, .cells [.int .i64 i151_.gKind, .str i151_.gName, .int .i64 i151_.gNum, .sl (List.map GTerm.c i151_.gKids)] [])], []⟩ _ (by kernel_rfl) .nil ?_
      rcases oif h with ⟨h187, h⟩ | ⟨h187, h⟩
      · refine Wc.condT h187 (by kernel_rfl) ?_
        refine Wc.seq ?_
        refine Wc.region [] [] [4] [] [] ⟨[(4, (.v (.int .i64 401), []))], [], []⟩ _ (by kernel_rfl) .nil ?_
        refine Wc.ret ?_
        obtain rfl := Option.some.inj h
        exact ⟨.inl rfl, by kernel_rfl, by kernel_rfl⟩
      · refine Wc.condF h187 (by kernel_rfl) ?_
        refine Wc.fix (st' := ⟨[(1, (.v (.int .i64 b152_), [])), (2, (.ptr 2 0, []))], [(2, .cells [.int .i64 i151_.gKind, .str i151_.gName, .int .i64 i151_.gNum, .sl (List.map GTerm.c i151_.gKids)] [])], []⟩) [] [1, 2] [2] [] (by kernel_rfl) ?_
        refine Wc.skip ?_
        refine Wc.seqJ (fun st => st = ⟨[(1, (.v (.int .i64 b152_), [])), (2, (.ptr 2 0, []))], [(2, .cells [.int .i64 i151_.gKind, .str i151_.gName, .int .i64 i151_.gNum, .sl (List.map GTerm.c i151_.gKids)] [])], []⟩ ∧ pimpl_sized_J1 k (pimpl_sized k) i151_ b152_ = some r) ?_ ?_
        · refine Wc.seq ?_
          refine Wc.region [] [] [1, 2, 11] [2] [] ⟨[(1, (.v (.int .i64 b152_), [])), (2, (.ptr 2 0, [])), (11, (.v (.int .i64 i151_.gKind), []))], [(2, .cells [.int .i64 i151_.gKind, .str i151_.gName, .int .i64 i151_.gNum, .sl (List.map GTerm.c i151_.gKids)] [])], []⟩ _ (by kernel_rfl) .nil ?_
          refine Wc.block ?_
          refine Wc.seq ?_
          refine Wc.region [] [] [1, 2, 11, 12] [2] [] ⟨[(1, (.v (.int .i64 b152_), [])), (2, (.ptr 2 0, [])), (11, (.v (.int .i64 i151_.gKind), [])), (12, (.v (.bool (i151_.gKind == 1)), []))], [(2, .cells [.int .i64 i151_.gKind, .str i151_.gName, .int .i64 i151_.gNum, .sl (List.map GTerm.c i151_.gKids)] [])], []⟩ _ (by kernel_rfl) .nil ?_
          rcases oif h with ⟨h193, h⟩ | ⟨h193, h⟩
          · refine Wc.condT h193 (by kernel_rfl) ?_
            refine Wc.seq ?_
            rcases oif h with ⟨h194, h⟩ | ⟨h194, h⟩
            · refine Wc.region [{}, {}, {}, { re := some (.bool true) }] [] [1, 2, 28] [2] [] ⟨[(1, (.v (.int .i64 b152_), [])), (2, (.ptr 2 0, [])), (28, (.v (.bool true), []))], [(2, .cells [.int .i64 i151_.gKind, .str i151_.gName, .int .i64 i151_.gNum, .sl (List.map GTerm.c i151_.gKids)] [])], []⟩ _ (by kernel_rfl) (.cons (congrArg AV.bool h194) .nil) ?_
              refine Wc.condT rfl (by kernel_rfl) ?_
              refine Wc.seq ?_
              refine Wc.region [] [] [4] [] [] ⟨[(4, (.v (.int .i64 401), []))], [], []⟩ _ (by kernel_rfl) .nil ?_
              refine Wc.ret ?_
              obtain rfl := Option.some.inj h
              exact ⟨.inl rfl, by kernel_rfl, by kernel_rfl⟩
            · obtain ⟨f158_, h195, h⟩ := obind h
              rcases oif h with ⟨h196, h⟩ | ⟨h196, h⟩
              · refine Wc.region [{}, {}, {}, { re := some (.bool false) }, {}, {}, { r := some (.v (.bool f158_) []) }, {}, {}, { re := some (.bool true) }] [] [1, 2, 28] [2] [] ⟨[(1, (.v (.int .i64 b152_), [])), (2, (.ptr 2 0, [])), (28, (.v (.bool true), []))], [(2, .cells [.int .i64 i151_.gKind, .str i151_.gName, .int .i64 i151_.gNum, .sl (List.map GTerm.c i151_.gKids)] [])], []⟩ _ (by kernel_rfl) (.cons (congrArg AV.bool h194) (.cons (cimpl_within h195) (.cons (congrArg AV.bool h196) .nil))) ?_
                refine Wc.condT rfl (by kernel_rfl) ?_
                refine Wc.seq ?_
                refine Wc.region [] [] [4] [] [] ⟨[(4, (.v (.int .i64 401), []))], [], []⟩ _ (by kernel_rfl) .nil ?_
                refine Wc.ret ?_
                obtain rfl := Option.some.inj h
                exact ⟨.inl rfl, by kernel_rfl, by kernel_rfl⟩
              · refine Wc.region [{}, {}, {}, { re := some (.bool false) }, {}, {}, { r := some (.v (.bool f158_) []) }, {}, {}, { re := some (.bool false) }, {}, {}, { v := some (.int .i64 (i151_.gKids.length : Int)) }] [] [1, 2, 28] [2] [] ⟨[(1, (.v (.int .i64 b152_), [])), (2, (.ptr 2 0, [])), (28, (.v (.bool (decide ((i151_.gKids.length : Int) > 0))), []))], [(2, .cells [.int .i64 i151_.gKind, .str i151_.gName, .int .i64 i151_.gNum, .sl (List.map GTerm.c i151_.gKids)] [])], []⟩ _ (by kernel_rfl) (.cons (congrArg AV.bool h194) (.cons (cimpl_within h195) (.cons (congrArg AV.bool h196) (.cons (len_obl GTerm.c i151_.gKids) .nil)))) ?_
                rcases oif h with ⟨h197, h⟩ | ⟨h197, h⟩
                · refine Wc.condT h197 (by kernel_rfl) ?_
                  refine Wc.seq ?_
                  refine Wc.region [] [] [4] [] [] ⟨[(4, (.v (.int .i64 401), []))], [], []⟩ _ (by kernel_rfl) .nil ?_
                  refine Wc.ret ?_
                  obtain rfl := Option.some.inj h
                  exact ⟨.inl rfl, by kernel_rfl, by kernel_rfl⟩
                · refine Wc.condF h197 (by kernel_rfl) ?_
                  refine Wc.fix (st' := ⟨[(1, (.v (.int .i64 b152_), [])), (2, (.ptr 2 0, []))], [(2, .cells [.int .i64 i151_.gKind, .str i151_.gName, .int .i64 i151_.gNum, .sl (List.map GTerm.c i151_.gKids)] [])], []⟩) [] [1, 2] [2] [] (by kernel_rfl) ?_
                  refine Wc.skip ?_
                  exact ⟨rfl, h⟩
          · refine Wc.condF h193 (by kernel_rfl) ?_
            refine Wc.seq ?_
            refine Wc.region [] [] [1, 2, 11, 29] [2] [] ⟨[(1, (.v (.int .i64 b152_), [])), (2, (.ptr 2 0, [])), (11, (.v (.int .i64 i151_.gKind), [])), (29, (.v (.bool (i151_.gKind == 2)), []))], [(2, .cells [.int .i64 i151_.gKind, .str i151_.gName, .int .i64 i151_.gNum, .sl (List.map GTerm.c i151_.gKids)] [])], []⟩ _ (by kernel_rfl) .nil ?_
            rcases oif h with ⟨h198, h⟩ | ⟨h198, h⟩
            · refine Wc.condT h198 (by kernel_rfl) ?_
              refine Wc.seq ?_
              obtain ⟨f159_, h199, h⟩ := obind h
              rcases oif h with ⟨h200, h⟩ | ⟨h200, h⟩
              · refine Wc.region [{}, {}, { r := some (.v (.bool f159_) []) }, {}, { re := some (.bool true) }] [] [1, 2, 45] [2] [] ⟨[(1, (.v (.int .i64 b152_), [])), (2, (.ptr 2 0, [])), (45, (.v (.bool true), []))], [(2, .cells [.int .i64 i151_.gKind, .str i151_.gName, .int .i64 i151_.gNum, .sl (List.map GTerm.c i151_.gKids)] [])], []⟩ _ (by kernel_rfl) (.cons (cimpl_nameOk h199) (.cons (congrArg AV.bool h200) .nil)) ?_
                refine Wc.condT rfl (by kernel_rfl) ?_
                refine Wc.seq ?_
                refine Wc.region [] [] [4] [] [] ⟨[(4, (.v (.int .i64 401), []))], [], []⟩ _ (by kernel_rfl) .nil ?_
                refine Wc.ret ?_
                obtain rfl := Option.some.inj h
                exact ⟨.inl rfl, by kernel_rfl, by kernel_rfl⟩
              · rcases oif h with ⟨h201, h⟩ | ⟨h201, h⟩
                · refine Wc.region [{}, {}, { r := some (.v (.bool f159_) []) }, {}, { re := some (.bool false) }, {}, {}, {}, {}, { re := some (.bool true) }] [] [1, 2, 45] [2] [] ⟨[(1, (.v (.int .i64 b152_), [])), (2, (.ptr 2 0, [])), (45, (.v (.bool true), []))], [(2, .cells [.int .i64 i151_.gKind, .str i151_.gName, .int .i64 i151_.gNum, .sl (List.map GTerm.c i151_.gKids)] [])], []⟩ _ (by kernel_rfl) (.cons (cimpl_nameOk h199) (.cons (congrArg AV.bool h200) (.cons (congrArg AV.bool h201) .nil))) ?_
                  refine Wc.condT rfl (by kernel_rfl) ?_
                  refine Wc.seq ?_
                  refine Wc.region [] [] [4] [] [] ⟨[(4, (.v (.int .i64 401), []))], [], []⟩ _ (by kernel_rfl) .nil ?_
                  refine Wc.ret ?_
                  obtain rfl := Option.some.inj h
                  exact ⟨.inl rfl, by kernel_rfl, by kernel_rfl⟩
                · refine Wc.region [{}, {}, { r := some (.v (.bool f159_) []) }, {}, { re := some (.bool false) }, {}, {}, {}, {}, { re := some (.bool false) }, {}, {}, { v := some (.int .i64 (i151_.gKids.length : Int)) }] [] [1, 2, 45] [2] [] ⟨[(1, (.v (.int .i64 b152_), [])), (2, (.ptr 2 0, [])), (45, (.v (.bool (decide ((i151_.gKids.length : Int) > 0))), []))], [(2, .cells [.int .i64 i151_.gKind, .str i151_.gName, .int .i64 i151_.gNum, .sl (List.map GTerm.c i151_.gKids)] [])], []⟩ _ (by kernel_rfl) (.cons (cimpl_nameOk h199) (.cons (congrArg AV.bool h200) (.cons (congrArg AV.bool h201) (.cons (len_obl GTerm.c i151_.gKids) .nil)))) ?_
                  rcases oif h with ⟨h202, h⟩ | ⟨h202, h⟩
                  · refine Wc.condT h202 (by kernel_rfl) ?_
                    refine Wc.seq ?_
                    refine Wc.region [] [] [4] [] [] ⟨[(4, (.v (.int .i64 401), []))], [], []⟩ _ (by kernel_rfl) .nil ?_
                    refine Wc.ret ?_
                    obtain rfl := Option.some.inj h
                    exact ⟨.inl rfl, by kernel_rfl, by kernel_rfl⟩
                  · refine Wc.condF h202 (by kernel_rfl) ?_
                    refine Wc.fix (st' := ⟨[(1, (.v (.int .i64 b152_), [])), (2, (.ptr 2 0, []))], [(2, .cells [.int .i64 i151_.gKind, .str i151_.gName, .int .i64 i151_.gNum, .sl (List.map GTerm.c i151_.gKids)] [])], []⟩) [] [1, 2] [2] [] (by kernel_rfl) ?_
                    refine Wc.skip ?_
                    exact ⟨rfl, h⟩
            · refine Wc.condF h198 (by kernel_rfl) ?_
              refine Wc.seq ?_
              refine Wc.region [] [] [1, 2, 11, 46] [2] [] ⟨[(1, (.v (.int .i64 b152_), [])), (2, (.ptr 2 0, [])), (11, (.v (.int .i64 i151_.gKind), [])), (46, (.v (.bool (i151_.gKind == 3)), []))], [(2, .cells [.int .i64 i151_.gKind, .str i151_.gName, .int .i64 i151_.gNum, .sl (List.map GTerm.c i151_.gKids)] [])], []⟩ _ (by kernel_rfl) .nil ?_
              rcases oif h with ⟨h203, h⟩ | ⟨h203, h⟩
              · refine Wc.condT h203 (by kernel_rfl) ?_
                refine Wc.seq ?_
                rcases oif h with ⟨h204, h⟩ | ⟨h204, h⟩
                · refine Wc.region [{}, {}, {}, { re := some (.bool true) }] [] [1, 2, 62] [2] [] ⟨[(1, (.v (.int .i64 b152_), [])), (2, (.ptr 2 0, [])), (62, (.v (.bool true), []))], [(2, .cells [.int .i64 i151_.gKind, .str i151_.gName, .int .i64 i151_.gNum, .sl (List.map GTerm.c i151_.gKids)] [])], []⟩ _ (by kernel_rfl) (.cons (congrArg AV.bool h204) .nil) ?_
                  refine Wc.condT rfl (by kernel_rfl) ?_
                  refine Wc.seq ?_
                  refine Wc.region [] [] [4] [] [] ⟨[(4, (.v (.int .i64 401), []))], [], []⟩ _ (by kernel_rfl) .nil ?_
                  refine Wc.ret ?_
                  obtain rfl := Option.some.inj h
                  exact ⟨.inl rfl, by kernel_rfl, by kernel_rfl⟩
                · obtain ⟨f160_, h205, h⟩ := obind h
                  rcases oif h with ⟨h206, h⟩ | ⟨h206, h⟩
                  · refine Wc.region [{}, {}, {}, { re := some (.bool false) }, {}, {}, { r := some (.v (.bool f160_) []) }, {}, {}, { re := some (.bool true) }] [] [1, 2, 62] [2] [] ⟨[(1, (.v (.int .i64 b152_), [])), (2, (.ptr 2 0, [])), (62, (.v (.bool true), []))], [(2, .cells [.int .i64 i151_.gKind, .str i151_.gName, .int .i64 i151_.gNum, .sl (List.map GTerm.c i151_.gKids)] [])], []⟩ _ (by kernel_rfl) (.cons (congrArg AV.bool h204) (.cons (cimpl_within h205) (.cons (congrArg AV.bool h206) .nil))) ?_
                    refine Wc.condT rfl (by kernel_rfl) ?_
                    refine Wc.seq ?_
                    refine Wc.region [] [] [4] [] [] ⟨[(4, (.v (.int .i64 401), []))], [], []⟩ _ (by kernel_rfl) .nil ?_
                    refine Wc.ret ?_
                    obtain rfl := Option.some.inj h
                    exact ⟨.inl rfl, by kernel_rfl, by kernel_rfl⟩
                  · refine Wc.region [{}, {}, {}, { re := some (.bool false) }, {}, {}, { r := some (.v (.bool f160_) []) }, {}, {}, { re := some (.bool false) }, {}, {}, { v := some (.int .i64 (i151_.gKids.length : Int)) }] [] [1, 2, 62] [2] [] ⟨[(1, (.v (.int .i64 b152_), [])), (2, (.ptr 2 0, [])), (62, (.v (.bool (decide ((i151_.gKids.length : Int) > 0))), []))], [(2, .cells [.int .i64 i151_.gKind, .str i151_.gName, .int .i64 i151_.gNum, .sl (List.map GTerm.c i151_.gKids)] [])], []⟩ _ (by kernel_rfl) (.cons (congrArg AV.bool h204) (.cons (cimpl_within h205) (.cons (congrArg AV.bool h206) (.cons (len_obl GTerm.c i151_.gKids) .nil)))) ?_
                    rcases oif h with ⟨h207, h⟩ | ⟨h207, h⟩
                    · refine Wc.condT h207 (by kernel_rfl) ?_
                      refine Wc.seq ?_
                      refine Wc.region [] [] [4] [] [] ⟨[(4, (.v (.int .i64 401), []))], [], []⟩ _ (by kernel_rfl) .nil ?_
                      refine Wc.ret ?_
                      obtain rfl := Option.some.inj h
                      exact ⟨.inl rfl, by kernel_rfl, by kernel_rfl⟩
                    · refine Wc.condF h207 (by kernel_rfl) ?_
                      refine Wc.fix (st' := ⟨[(1, (.v (.int .i64 b152_), [])), (2, (.ptr 2 0, []))], [(2, .cells [.int .i64 i151_.gKind, .str i151_.gName, .int .i64 i151_.gNum, .sl (List.map GTerm.c i151_.gKids)] [])], []⟩) [] [1, 2] [2] [] (by kernel_rfl) ?_
                      refine Wc.skip ?_
                      exact ⟨rfl, h⟩
              · refine Wc.condF h203 (by kernel_rfl) ?_
                refine Wc.seq ?_
                refine Wc.region [] [] [1, 2, 63] [2] [] ⟨[(1, (.v (.int .i64 b152_), [])), (2, (.ptr 2 0, [])), (63, (.v (.bool (i151_.gKind == 4)), []))], [(2, .cells [.int .i64 i151_.gKind, .str i151_.gName, .int .i64 i151_.gNum, .sl (List.map GTerm.c i151_.gKids)] [])], []⟩ _ (by kernel_rfl) .nil ?_
                rcases oif h with ⟨h208, h⟩ | ⟨h208, h⟩
                · refine Wc.condT h208 (by kernel_rfl) ?_
                  refine Wc.seq ?_
                  obtain ⟨f161_, h209, h⟩ := obind h
                  rcases oif h with ⟨h210, h⟩ | ⟨h210, h⟩
                  · refine Wc.region [{}, {}, { r := some (.v (.bool f161_) []) }, {}, { re := some (.bool true) }] [] [1, 2, 80] [2] [] ⟨[(1, (.v (.int .i64 b152_), [])), (2, (.ptr 2 0, [])), (80, (.v (.bool true), []))], [(2, .cells [.int .i64 i151_.gKind, .str i151_.gName, .int .i64 i151_.gNum, .sl (List.map GTerm.c i151_.gKids)] [])], []⟩ _ (by kernel_rfl) (.cons (cimpl_nameOk h209) (.cons (congrArg AV.bool h210) .nil)) ?_
                    refine Wc.condT rfl (by kernel_rfl) ?_
                    refine Wc.seq ?_
                    refine Wc.region [] [] [4] [] [] ⟨[(4, (.v (.int .i64 401), []))], [], []⟩ _ (by kernel_rfl) .nil ?_
                    refine Wc.ret ?_
                    obtain rfl := Option.some.inj h
                    exact ⟨.inl rfl, by kernel_rfl, by kernel_rfl⟩
                  · rcases oif h with ⟨h211, h⟩ | ⟨h211, h⟩
                    · refine Wc.region [{}, {}, { r := some (.v (.bool f161_) []) }, {}, { re := some (.bool false) }, {}, {}, {}, {}, { re := some (.bool true) }] [] [1, 2, 80] [2] [] ⟨[(1, (.v (.int .i64 b152_), [])), (2, (.ptr 2 0, [])), (80, (.v (.bool true), []))], [(2, .cells [.int .i64 i151_.gKind, .str i151_.gName, .int .i64 i151_.gNum, .sl (List.map GTerm.c i151_.gKids)] [])], []⟩ _ (by kernel_rfl) (.cons (cimpl_nameOk h209) (.cons (congrArg AV.bool h210) (.cons (congrArg AV.bool h211) .nil))) ?_
                      refine Wc.condT rfl (by kernel_rfl) ?_
                      refine Wc.seq ?_
                      refine Wc.region [] [] [4] [] [] ⟨[(4, (.v (.int .i64 401), []))], [], []⟩ _ (by kernel_rfl) .nil ?_
                      refine Wc.ret ?_
                      obtain rfl := Option.some.inj h
                      exact ⟨.inl rfl, by kernel_rfl, by kernel_rfl⟩
                    · obtain ⟨f162_, h212, h⟩ := obind h
                      refine Wc.region [{}, {}, { r := some (.v (.bool f161_) []) }, {}, { re := some (.bool false) }, {}, {}, {}, {}, { re := some (.bool false) }, {}, {}, { v := some (.int .i64 (i151_.gKids.length : Int)) }, { r := some (.v (.bool f162_) []) }] [] [1, 2, 80] [2] [] ⟨[(1, (.v (.int .i64 b152_), [])), (2, (.ptr 2 0, [])), (80, (.v (.bool (!f162_)), []))], [(2, .cells [.int .i64 i151_.gKind, .str i151_.gName, .int .i64 i151_.gNum, .sl (List.map GTerm.c i151_.gKids)] [])], []⟩ _ (by kernel_rfl) (.cons (cimpl_nameOk h209) (.cons (congrArg AV.bool h210) (.cons (congrArg AV.bool h211) (.cons (len_obl GTerm.c i151_.gKids) (.cons (cimpl_within h212) .nil))))) ?_
                      rcases oif h with ⟨h213, h⟩ | ⟨h213, h⟩
                      · refine Wc.condT h213 (by kernel_rfl) ?_
                        refine Wc.seq ?_
                        refine Wc.region [] [] [4] [] [] ⟨[(4, (.v (.int .i64 401), []))], [], []⟩ _ (by kernel_rfl) .nil ?_
                        refine Wc.ret ?_
                        obtain rfl := Option.some.inj h
                        exact ⟨.inl rfl, by kernel_rfl, by kernel_rfl⟩
                      · refine Wc.condF h213 (by kernel_rfl) ?_
                        refine Wc.fix (st' := ⟨[(1, (.v (.int .i64 b152_), [])), (2, (.ptr 2 0, []))], [(2, .cells [.int .i64 i151_.gKind, .str i151_.gName, .int .i64 i151_.gNum, .sl (List.map GTerm.c i151_.gKids)] [])], []⟩) [] [1, 2] [2] [] (by kernel_rfl) ?_
                        refine Wc.skip ?_
                        exact ⟨rfl, h⟩
                · refine Wc.condF h208 (by kernel_rfl) ?_
                  refine Wc.seq ?_
                  refine Wc.region [] [] [4] [] [] ⟨[(4, (.v (.int .i64 401), []))], [], []⟩ _ (by kernel_rfl) .nil ?_
                  refine Wc.ret ?_
                  obtain rfl := Option.some.inj h
                  exact ⟨.inl rfl, by kernel_rfl, by kernel_rfl⟩
        · rintro st ⟨rfl, h⟩
          refine Wc.seq ?_
          refine Wc.region [] [] [1, 2, 5] [2] [] ⟨[(1, (.v (.int .i64 b152_), [])), (2, (.ptr 2 0, [])), (5, (.v (.int .i64 1), []))], [(2, .cells [.int .i64 i151_.gKind, .str i151_.gName, .int .i64 i151_.gNum, .sl (List.map GTerm.c i151_.gKids)] [])], []⟩ _ (by kernel_rfl) .nil ?_
          refine Wc.seq ?_
          refine Wc.seq ?_
          refine Wc.region [{}, {}, { v := some (.int .i64 (i151_.gKids.length : Int)) }] [] [1, 5, 82, 83, 84] [] [] ⟨[(1, (.v (.int .i64 b152_), [])), (5, (.v (.int .i64 1), [])), (82, (.v (.sl (List.map GTerm.c i151_.gKids)), [])), (83, (.v (.int .i64 (i151_.gKids.length : Int)), [])), (84, (.v (.int .i64 0), []))], [], []⟩ _ (by kernel_rfl) (.cons (len_obl GTerm.c i151_.gKids) .nil) ?_
          obtain ⟨out2, h188, h⟩ := obind h
          refine Wc.lastJ (fun st => ∃ (b155_ : Int), out2 = .done b155_ ∧ st = ⟨[(5, (.v (.int .i64 b155_), []))], [], []⟩) ?_ ?_
          · refine Wc.block ?_
            refine Wc.loop (fun m st => ∃ (b153_ : Int) (b154_ : Int), st = ⟨[(1, (.v (.int .i64 b152_), [])), (5, (.v (.int .i64 b153_), [])), (82, (.v (.sl (List.map GTerm.c i151_.gKids)), [])), (83, (.v (.int .i64 (i151_.gKids.length : Int)), [])), (84, (.v (.int .i64 b154_), []))], [], []⟩ ∧ pimpl_sized_L2 k (pimpl_sized k) i151_ b152_ m b153_ b154_ = some out2) ?_ k ⟨_, _, rfl, h188⟩
            rintro m st ⟨b153_, b154_, rfl, h188⟩
            cases m with
            | zero => exact (onone h188).elim
            | succ m =>
              refine Wc.seq ?_
              refine Wc.region [] [] [1, 5, 82, 83, 84, 85] [] [] ⟨[(1, (.v (.int .i64 b152_), [])), (5, (.v (.int .i64 b153_), [])), (82, (.v (.sl (List.map GTerm.c i151_.gKids)), [])), (83, (.v (.int .i64 (i151_.gKids.length : Int)), [])), (84, (.v (.int .i64 b154_), [])), (85, (.v (.bool (decide (b154_ < (i151_.gKids.length : Int)))), []))], [], []⟩ _ (by kernel_rfl) .nil ?_
              refine Wc.seq ?_
              rcases oif h188 with ⟨h189, h188⟩ | ⟨h189, h188⟩
              · refine Wc.condT h189 (by kernel_rfl) ?_
                refine Wc.fix (st' := ⟨[(1, (.v (.int .i64 b152_), [])), (5, (.v (.int .i64 b153_), [])), (82, (.v (.sl (List.map GTerm.c i151_.gKids)), [])), (83, (.v (.int .i64 (i151_.gKids.length : Int)), [])), (84, (.v (.int .i64 b154_), []))], [], []⟩) [] [1, 5, 82, 83, 84] [] [] (by kernel_rfl) ?_
                refine Wc.skip ?_
                refine Wc.seq ?_
                refine Wc.block ?_
                refine Wc.seq ?_
                obtain ⟨i156_, h190, h188⟩ := obind h188
                refine Wc.region [{ v := some (.vptr [.int .i64 i156_.gKind, .str i156_.gName, .int .i64 i156_.gNum, .sl (List.map GTerm.c i156_.gKids)]) }] [] [1, 5, 7, 82, 83, 84] [7] [] ⟨[(1, (.v (.int .i64 b152_), [])), (5, (.v (.int .i64 b153_), [])), (7, (.ptr 7 0, [])), (82, (.v (.sl (List.map GTerm.c i151_.gKids)), [])), (83, (.v (.int .i64 (i151_.gKids.length : Int)), [])), (84, (.v (.int .i64 b154_), []))], [(7, .cells [.int .i64 i156_.gKind, .str i156_.gName, .int .i64 i156_.gNum, .sl (List.map GTerm.c i156_.gKids)] [])], []⟩ _ (by kernel_rfl) (.cons (at_obl (c := GTerm.c) (GTerm.c_eq i156_) GTerm.c_len h190) (.cons (len_ok 4 [.int .i64 i156_.gKind, .str i156_.gName, .int .i64 i156_.gNum, .sl (List.map GTerm.c i156_.gKids)]) .nil)) ?_
                refine Wc.seq ?_
                obtain ⟨b157_, h191, h188⟩ := obind h188
                refine Wc.region [{}, {}, {}, {}, { r := some (.v (.int .i64 b157_) []) }] [] [1, 5, 82, 83, 84] [] [] ⟨[(1, (.v (.int .i64 b152_), [])), (5, (.v (.int .i64 (wr.i64 (b153_ + b157_))), [])), (82, (.v (.sl (List.map GTerm.c i151_.gKids)), [])), (83, (.v (.int .i64 (i151_.gKids.length : Int)), [])), (84, (.v (.int .i64 b154_), []))], [], []⟩ _ (by kernel_rfl) (.cons (ih_pimpl_sized h191) .nil) ?_
                refine Wc.seq ?_
                refine Wc.region [] [] [1, 5, 82, 83, 84, 95] [] [] ⟨[(1, (.v (.int .i64 b152_), [])), (5, (.v (.int .i64 (wr.i64 (b153_ + b157_))), [])), (82, (.v (.sl (List.map GTerm.c i151_.gKids)), [])), (83, (.v (.int .i64 (i151_.gKids.length : Int)), [])), (84, (.v (.int .i64 b154_), [])), (95, (.v (.bool (decide ((wr.i64 (b153_ + b157_)) > 400))), []))], [], []⟩ _ (by kernel_rfl) .nil ?_
                rcases oif h188 with ⟨h192, h188⟩ | ⟨h192, h188⟩
                · refine Wc.condT h192 (by kernel_rfl) ?_
                  refine Wc.seq ?_
                  refine Wc.region [] [] [4] [] [] ⟨[(4, (.v (.int .i64 401), []))], [], []⟩ _ (by kernel_rfl) .nil ?_
                  refine Wc.ret ?_
                  obtain rfl := Option.some.inj h188
                  obtain rfl := Option.some.inj h
                  exact ⟨.inl rfl, by kernel_rfl, by kernel_rfl⟩
                · refine Wc.condF h192 (by kernel_rfl) ?_
                  refine Wc.fix (st' := ⟨[(1, (.v (.int .i64 b152_), [])), (5, (.v (.int .i64 (wr.i64 (b153_ + b157_))), [])), (82, (.v (.sl (List.map GTerm.c i151_.gKids)), [])), (83, (.v (.int .i64 (i151_.gKids.length : Int)), [])), (84, (.v (.int .i64 b154_), []))], [], []⟩) [] [1, 5, 82, 83, 84] [] [] (by kernel_rfl) ?_
                  refine Wc.skip ?_
                  refine Wc.region [] [] [1, 5, 82, 83, 84] [] [] ⟨[(1, (.v (.int .i64 b152_), [])), (5, (.v (.int .i64 (wr.i64 (b153_ + b157_))), [])), (82, (.v (.sl (List.map GTerm.c i151_.gKids)), [])), (83, (.v (.int .i64 (i151_.gKids.length : Int)), [])), (84, (.v (.int .i64 (wr.i64 (b154_ + 1))), []))], [], []⟩ _ (by kernel_rfl) .nil ?_
                  exact ⟨_, Nat.lt_succ_self _, _, _, rfl, h188⟩
              · refine Wc.condF h189 (by kernel_rfl) ?_
                refine Wc.fix (st' := ⟨[(5, (.v (.int .i64 b153_), []))], [], []⟩) [] [5] [] [] (by kernel_rfl) ?_
                refine Wc.exit ?_
                obtain rfl := Option.some.inj h188
                exact ⟨_, rfl, rfl⟩
          · rintro st ⟨b155_, rfl, rfl⟩
            refine Wc.seq ?_
            refine Wc.region [] [] [4] [] [] ⟨[(4, (.v (.int .i64 b155_), []))], [], []⟩ _ (by kernel_rfl) .nil ?_
            refine Wc.ret ?_
            obtain rfl := Option.some.inj h
            exact ⟨.inl rfl, by kernel_rfl, by kernel_rfl⟩
theorem cimpl_sized {k : Nat} {i151_ : GTerm} {b152_ : Int} {r : Int} (h : pimpl_sized k i151_ b152_ = some r) : FnO Try.prog 125 [.v (.agg [.int .i64 i151_.gKind, .str i151_.gName, .int .i64 i151_.gNum, .sl (List.map GTerm.c i151_.gKids)]) [], .v (.int .i64 b152_) []] (.v (.int .i64 r) []) [] := (all_pimpl_sized k) h

/-- impl.TermOk -/
def pimpl_TermOk (k : Nat) (i163_ : GTerm) : Option Bool :=
  (pimpl_sized k i163_ 1).bind fun b164_ =>
  some (decide (b164_ ≤ 400))
theorem cimpl_TermOk {k : Nat} {i163_ : GTerm} {r : Bool} (h : pimpl_TermOk k i163_ = some r) : FnO Try.prog 81 [.v (.agg [.int .i64 i163_.gKind, .str i163_.gName, .int .i64 i163_.gNum, .sl (List.map GTerm.c i163_.gKids)]) []] (.v (.bool r) []) [] := by
  refine FnO.of Try.func81 (rfl : Try.f81.body = some _) (Nat.le_of_ble_eq_true (by kernel_rfl)) (Nat.le_of_ble_eq_true (by kernel_rfl)) ?_
  intro w0 X0 Fin pv0 pb
  unfold pimpl_TermOk at h
  refine Wc.seq ?_
  refine Wc.region [] [] [1] [1] [] ⟨[(1, (.ptr 1 0, []))], [(1, .cells [.int .i64 i163_.gKind, .str i163_.gName, .int .i64 i163_.gNum, .sl (List.map GTerm.c i163_.gKids)] [])], []⟩ _ (by kernel_rfl) .nil ?_
  refine Wc.seq ?_
  obtain ⟨b164_, h214, h⟩ := obind h
  refine Wc.region [{}, { r := some (.v (.int .i64 b164_) []) }] [] [2] [] [] ⟨[(2, (.v (.bool (decide (b164_ ≤ 400))), []))], [], []⟩ _ (by kernel_rfl) (.cons (cimpl_sized h214) .nil) ?_
  refine Wc.ret ?_
  obtain rfl := Option.some.inj h
  exact ⟨.inl rfl, by kernel_rfl, by kernel_rfl⟩
end Go.Proofs.Ytgfpmdaihkdhkaa

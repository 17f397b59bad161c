/- What the functions do. -/
import Derived.Test.YtbpenglnebpbcaaTy
set_option linter.unusedVariables false
set_option linter.unusedSimpArgs false
namespace Go.Proofs.Ytbpenglnebpbcaa
open Go.RowKit Go.Av
/-- laws.szIntS -/
def plaws_szIntS (k : Nat) (a1_ : List Int) (b2_ : Int) : Option Int :=
  if (decide ((wr.i64 (b2_ - (a1_.length : Int))) < 0)) = true then
    some (-1)
  else
    some (wr.i64 (b2_ - (a1_.length : Int)))
theorem claws_szIntS {k : Nat} {a1_ : List Int} {b2_ : Int} {r : Int} (h : plaws_szIntS k a1_ b2_ = some r) : FnC Try.prog 48 [.sl (List.map cI.i64 a1_), .int .i64 b2_] (.int .i64 r) [] := by
  refine FnC.of Try.func48 (rfl : Try.f48.body = some _) (Nat.le_of_ble_eq_true (by kernel_rfl)) ?_
  intro w0 X0
  unfold plaws_szIntS at h
  refine Wc.seq ?_
  refine Wc.region [] [0, 1] [] [] ⟨[(0, (.v (.sl (List.map cI.i64 a1_)), [])), (1, (.v (.int .i64 b2_), []))], [], []⟩ _ (by kernel_rfl) .nil ?_
  refine Wc.seq ?_
  refine Wc.region [((none, []), none), ((none, []), none), ((some (.int .i64 (a1_.length : Int)), []), none)] [1] [] [] ⟨[(1, (.v (.int .i64 (wr.i64 (b2_ - (a1_.length : Int)))), []))], [], []⟩ _ (by kernel_rfl) (.cons (len_obl cI.i64 a1_) .nil) ?_
  refine Wc.seq ?_
  refine Wc.seq ?_
  refine Wc.region [] [1, 10] [] [] ⟨[(1, (.v (.int .i64 (wr.i64 (b2_ - (a1_.length : Int)))), [])), (10, (.v (.bool (decide ((wr.i64 (b2_ - (a1_.length : Int))) < 0))), []))], [], []⟩ _ (by kernel_rfl) .nil ?_
  rcases oif h with ⟨h1, h⟩ | ⟨h1, h⟩
  · refine Wc.condT h1 (by kernel_rfl) ?_
    refine Wc.seq ?_
    refine Wc.region [] [4] [] [] ⟨[(4, (.v (.int .i64 (-1)), []))], [], []⟩ _ (by kernel_rfl) .nil ?_
    refine Wc.ret ?_
    obtain rfl := Option.some.inj h
    exact ⟨.inl rfl, by kernel_rfl⟩
  · refine Wc.condF h1 (by kernel_rfl) ?_
    refine Wc.keep [1] [] [] ⟨[(1, (.v (.int .i64 (wr.i64 (b2_ - (a1_.length : Int)))), []))], [], []⟩ (by kernel_rfl) ?_
    refine Wc.skip ?_
    refine Wc.seq ?_
    refine Wc.region [] [4] [] [] ⟨[(4, (.v (.int .i64 (wr.i64 (b2_ - (a1_.length : Int)))), []))], [], []⟩ _ (by kernel_rfl) .nil ?_
    refine Wc.ret ?_
    obtain rfl := Option.some.inj h
    exact ⟨.inl rfl, by kernel_rfl⟩

/-- laws.szCell -/
def plaws_szCell (k : Nat) (c3_ : GCell) (b4_ : Int) : Option Int :=
  if (decide ((wr.i64 (b4_ - (c3_.gName.size : Int))) < 0)) = true then
    some (-1)
  else
    (plaws_szIntS k c3_.gKids (wr.i64 (b4_ - (c3_.gName.size : Int)))).bind fun b5_ =>
    if (decide (b5_ < 0)) = true then
      some (-1)
    else
      some b5_
theorem claws_szCell {k : Nat} {c3_ : GCell} {b4_ : Int} {r : Int} (h : plaws_szCell k c3_ b4_ = some r) : FnC Try.prog 63 [.agg [.int .i64 c3_.gKind, .str c3_.gName, .int .i64 c3_.gNum, .int .i64 c3_.gTo, .sl (List.map cI.i64 c3_.gKids)], .int .i64 b4_] (.int .i64 r) [] := by
  refine FnC.of Try.func63 (rfl : Try.f63.body = some _) (Nat.le_of_ble_eq_true (by kernel_rfl)) ?_
  intro w0 X0
  unfold plaws_szCell at h
  refine Wc.seq ?_
  refine Wc.region [] [1, 2] [2] [] ⟨[(1, (.v (.int .i64 b4_), [])), (2, (.ptr 2 0, []))], [(2, ([.int .i64 c3_.gKind, .str c3_.gName, .int .i64 c3_.gNum, .int .i64 c3_.gTo, .sl (List.map cI.i64 c3_.gKids)], []))], []⟩ _ (by kernel_rfl) .nil ?_
  refine Wc.seq ?_
  refine Wc.region [] [1, 2] [2] [] ⟨[(1, (.v (.int .i64 (wr.i64 (b4_ - (c3_.gName.size : Int)))), [])), (2, (.ptr 2 0, []))], [(2, ([.int .i64 c3_.gKind, .str c3_.gName, .int .i64 c3_.gNum, .int .i64 c3_.gTo, .sl (List.map cI.i64 c3_.gKids)], []))], []⟩ _ (by kernel_rfl) .nil ?_
  refine Wc.seq ?_
  refine Wc.seq ?_
  refine Wc.region [] [1, 2, 11] [2] [] ⟨[(1, (.v (.int .i64 (wr.i64 (b4_ - (c3_.gName.size : Int)))), [])), (2, (.ptr 2 0, [])), (11, (.v (.bool (decide ((wr.i64 (b4_ - (c3_.gName.size : Int))) < 0))), []))], [(2, ([.int .i64 c3_.gKind, .str c3_.gName, .int .i64 c3_.gNum, .int .i64 c3_.gTo, .sl (List.map cI.i64 c3_.gKids)], []))], []⟩ _ (by kernel_rfl) .nil ?_
  rcases oif h with ⟨h2, h⟩ | ⟨h2, h⟩
  · refine Wc.condT h2 (by kernel_rfl) ?_
    refine Wc.seq ?_
    refine Wc.region [] [4] [] [] ⟨[(4, (.v (.int .i64 (-1)), []))], [], []⟩ _ (by kernel_rfl) .nil ?_
    refine Wc.ret ?_
    obtain rfl := Option.some.inj h
    exact ⟨.inl rfl, by kernel_rfl⟩
  · refine Wc.condF h2 (by kernel_rfl) ?_
    refine Wc.keep [1, 2] [2] [] ⟨[(1, (.v (.int .i64 (wr.i64 (b4_ - (c3_.gName.size : Int)))), [])), (2, (.ptr 2 0, []))], [(2, ([.int .i64 c3_.gKind, .str c3_.gName, .int .i64 c3_.gNum, .int .i64 c3_.gTo, .sl (List.map cI.i64 c3_.gKids)], []))], []⟩ (by kernel_rfl) ?_
    refine Wc.skip ?_
    refine Wc.seq ?_
    obtain ⟨b5_, h3, h⟩ := obind h
    refine Wc.region [((none, []), none), ((none, []), none), ((none, []), none), ((some (.int .i64 b5_), []), none)] [1] [] [] ⟨[(1, (.v (.int .i64 b5_), []))], [], []⟩ _ (by kernel_rfl) (.cons (claws_szIntS h3) .nil) ?_
    refine Wc.seq ?_
    refine Wc.seq ?_
    refine Wc.region [] [1, 17] [] [] ⟨[(1, (.v (.int .i64 b5_), [])), (17, (.v (.bool (decide (b5_ < 0))), []))], [], []⟩ _ (by kernel_rfl) .nil ?_
    rcases oif h with ⟨h4, h⟩ | ⟨h4, h⟩
    · refine Wc.condT h4 (by kernel_rfl) ?_
      refine Wc.seq ?_
      refine Wc.region [] [4] [] [] ⟨[(4, (.v (.int .i64 (-1)), []))], [], []⟩ _ (by kernel_rfl) .nil ?_
      refine Wc.ret ?_
      obtain rfl := Option.some.inj h
      exact ⟨.inl rfl, by kernel_rfl⟩
    · refine Wc.condF h4 (by kernel_rfl) ?_
      refine Wc.keep [1] [] [] ⟨[(1, (.v (.int .i64 b5_), []))], [], []⟩ (by kernel_rfl) ?_
      refine Wc.skip ?_
      refine Wc.seq ?_
      refine Wc.region [] [4] [] [] ⟨[(4, (.v (.int .i64 b5_), []))], [], []⟩ _ (by kernel_rfl) .nil ?_
      refine Wc.ret ?_
      obtain rfl := Option.some.inj h
      exact ⟨.inl rfl, by kernel_rfl⟩

def plaws_szCellS_L1 (k : Nat) (d6_ : List GCell) : Nat → Int → Int → Option (Out Int Int)
  | 0, _, _ => none
  | m + 1, b8_, b9_ =>
    if (decide (b9_ < (d6_.length : Int))) = true then
      (at' d6_ b9_).bind fun c11_ =>
      (plaws_szCell k c11_ b8_).bind fun b12_ =>
      if (decide (b12_ < 0)) = true then
        some (.ret (-1))
      else
        plaws_szCellS_L1 k d6_ m b12_ (wr.i64 (b9_ + 1))
    else
      some (.done b8_)
/-- laws.szCellS -/
def plaws_szCellS (k : Nat) (d6_ : List GCell) (b7_ : Int) : Option Int :=
  if (decide ((wr.i64 (b7_ - (d6_.length : Int))) < 0)) = true then
    some (-1)
  else
    (plaws_szCellS_L1 k d6_ k (wr.i64 (b7_ - (d6_.length : Int))) 0).bind fun out1 => match out1 with
    | .ret r => some r
    | .done b10_ =>
      some b10_
theorem claws_szCellS {k : Nat} {d6_ : List GCell} {b7_ : Int} {r : Int} (h : plaws_szCellS k d6_ b7_ = some r) : FnC Try.prog 47 [.sl (List.map GCell.c d6_), .int .i64 b7_] (.int .i64 r) [] := by
  refine FnC.of Try.func47 (rfl : Try.f47.body = some _) (Nat.le_of_ble_eq_true (by kernel_rfl)) ?_
  intro w0 X0
  unfold plaws_szCellS at h
  refine Wc.seq ?_
  refine Wc.region [] [0, 1] [] [] ⟨[(0, (.v (.sl (List.map GCell.c d6_)), [])), (1, (.v (.int .i64 b7_), []))], [], []⟩ _ (by kernel_rfl) .nil ?_
  refine Wc.seq ?_
  refine Wc.region [((none, []), none), ((none, []), none), ((some (.int .i64 (d6_.length : Int)), []), none)] [0, 1] [] [] ⟨[(0, (.v (.sl (List.map GCell.c d6_)), [])), (1, (.v (.int .i64 (wr.i64 (b7_ - (d6_.length : Int)))), []))], [], []⟩ _ (by kernel_rfl) (.cons (len_obl GCell.c d6_) .nil) ?_
  refine Wc.seq ?_
  refine Wc.seq ?_
  refine Wc.region [] [0, 1, 11] [] [] ⟨[(0, (.v (.sl (List.map GCell.c d6_)), [])), (1, (.v (.int .i64 (wr.i64 (b7_ - (d6_.length : Int)))), [])), (11, (.v (.bool (decide ((wr.i64 (b7_ - (d6_.length : Int))) < 0))), []))], [], []⟩ _ (by kernel_rfl) .nil ?_
  rcases oif h with ⟨h5, h⟩ | ⟨h5, h⟩
  · refine Wc.condT h5 (by kernel_rfl) ?_
    refine Wc.seq ?_
    refine Wc.region [] [4] [] [] ⟨[(4, (.v (.int .i64 (-1)), []))], [], []⟩ _ (by kernel_rfl) .nil ?_
    refine Wc.ret ?_
    obtain rfl := Option.some.inj h
    exact ⟨.inl rfl, by kernel_rfl⟩
  · refine Wc.condF h5 (by kernel_rfl) ?_
    refine Wc.keep [0, 1] [] [] ⟨[(0, (.v (.sl (List.map GCell.c d6_)), [])), (1, (.v (.int .i64 (wr.i64 (b7_ - (d6_.length : Int)))), []))], [], []⟩ (by kernel_rfl) ?_
    refine Wc.skip ?_
    refine Wc.seq ?_
    refine Wc.seq ?_
    refine Wc.region [] [0, 1, 5] [] [] ⟨[(0, (.v (.sl (List.map GCell.c d6_)), [])), (1, (.v (.int .i64 (wr.i64 (b7_ - (d6_.length : Int)))), [])), (5, (.v (.int .i64 0), []))], [], []⟩ _ (by kernel_rfl) .nil ?_
    obtain ⟨out1, h6, h⟩ := obind h
    refine Wc.lastJ (fun st => ∃ (b10_ : Int), out1 = .done b10_ ∧ st = ⟨[(1, (.v (.int .i64 b10_), []))], [], []⟩) ?_ ?_
    · refine Wc.block ?_
      refine Wc.loop (fun m st => ∃ (b8_ : Int) (b9_ : Int), st = ⟨[(0, (.v (.sl (List.map GCell.c d6_)), [])), (1, (.v (.int .i64 b8_), [])), (5, (.v (.int .i64 b9_), []))], [], []⟩ ∧ plaws_szCellS_L1 k d6_ m b8_ b9_ = some out1) ?_ k ⟨_, _, rfl, h6⟩
      rintro m st ⟨b8_, b9_, rfl, h6⟩
      cases m with
      | zero => exact (onone h6).elim
      | succ m =>
        refine Wc.seq ?_
        refine Wc.seq ?_
        refine Wc.region [((none, []), none), ((none, []), none), ((some (.int .i64 (d6_.length : Int)), []), none)] [0, 1, 5, 15] [] [] ⟨[(0, (.v (.sl (List.map GCell.c d6_)), [])), (1, (.v (.int .i64 b8_), [])), (5, (.v (.int .i64 b9_), [])), (15, (.v (.bool (decide (b9_ < (d6_.length : Int)))), []))], [], []⟩ _ (by kernel_rfl) (.cons (len_obl GCell.c d6_) .nil) ?_
        rcases oif h6 with ⟨h7, h6⟩ | ⟨h7, h6⟩
        · refine Wc.condT h7 (by kernel_rfl) ?_
          refine Wc.keep [0, 1, 5] [] [] ⟨[(0, (.v (.sl (List.map GCell.c d6_)), [])), (1, (.v (.int .i64 b8_), [])), (5, (.v (.int .i64 b9_), []))], [], []⟩ (by kernel_rfl) ?_
          refine Wc.skip ?_
          refine Wc.seq ?_
          refine Wc.block ?_
          refine Wc.seq ?_
          obtain ⟨c11_, h8, h6⟩ := obind h6
          obtain ⟨b12_, h9, h6⟩ := obind h6
          refine Wc.region [((none, []), none), ((none, []), none), ((some (.vptr [.int .i64 c11_.gKind, .str c11_.gName, .int .i64 c11_.gNum, .int .i64 c11_.gTo, .sl (List.map cI.i64 c11_.gKids)]), []), none), ((none, []), none), ((none, []), none), ((some (.int .i64 b12_), []), none)] [0, 1, 5] [] [] ⟨[(0, (.v (.sl (List.map GCell.c d6_)), [])), (1, (.v (.int .i64 b12_), [])), (5, (.v (.int .i64 b9_), []))], [], []⟩ _ (by kernel_rfl) (.cons (at_obl (c := GCell.c) (GCell.c_eq c11_) GCell.c_len h8) (.cons (len_ok 5 [.int .i64 c11_.gKind, .str c11_.gName, .int .i64 c11_.gNum, .int .i64 c11_.gTo, .sl (List.map cI.i64 c11_.gKids)]) (.cons (claws_szCell h9) .nil))) ?_
          refine Wc.seq ?_
          refine Wc.region [] [0, 1, 5, 25] [] [] ⟨[(0, (.v (.sl (List.map GCell.c d6_)), [])), (1, (.v (.int .i64 b12_), [])), (5, (.v (.int .i64 b9_), [])), (25, (.v (.bool (decide (b12_ < 0))), []))], [], []⟩ _ (by kernel_rfl) .nil ?_
          rcases oif h6 with ⟨h10, h6⟩ | ⟨h10, h6⟩
          · refine Wc.condT h10 (by kernel_rfl) ?_
            refine Wc.seq ?_
            refine Wc.region [] [4] [] [] ⟨[(4, (.v (.int .i64 (-1)), []))], [], []⟩ _ (by kernel_rfl) .nil ?_
            refine Wc.ret ?_
            obtain rfl := Option.some.inj h6
            obtain rfl := Option.some.inj h
            exact ⟨.inl rfl, by kernel_rfl⟩
          · refine Wc.condF h10 (by kernel_rfl) ?_
            refine Wc.keep [0, 1, 5] [] [] ⟨[(0, (.v (.sl (List.map GCell.c d6_)), [])), (1, (.v (.int .i64 b12_), [])), (5, (.v (.int .i64 b9_), []))], [], []⟩ (by kernel_rfl) ?_
            refine Wc.skip ?_
            refine Wc.region [] [0, 1, 5] [] [] ⟨[(0, (.v (.sl (List.map GCell.c d6_)), [])), (1, (.v (.int .i64 b12_), [])), (5, (.v (.int .i64 (wr.i64 (b9_ + 1))), []))], [], []⟩ _ (by kernel_rfl) .nil ?_
            exact ⟨_, Nat.lt_succ_self _, _, _, rfl, h6⟩
        · refine Wc.condF h7 (by kernel_rfl) ?_
          refine Wc.keep [1] [] [] ⟨[(1, (.v (.int .i64 b8_), []))], [], []⟩ (by kernel_rfl) ?_
          refine Wc.exit ?_
          obtain rfl := Option.some.inj h6
          exact ⟨_, rfl, rfl⟩
    · rintro st ⟨b10_, rfl, rfl⟩
      refine Wc.seq ?_
      refine Wc.region [] [4] [] [] ⟨[(4, (.v (.int .i64 b10_), []))], [], []⟩ _ (by kernel_rfl) .nil ?_
      refine Wc.ret ?_
      obtain rfl := Option.some.inj h
      exact ⟨.inl rfl, by kernel_rfl⟩

/-- laws.szHeap -/
def plaws_szHeap (k : Nat) (e13_ : GHeap) (b14_ : Int) : Option Int :=
  (plaws_szCellS k e13_.gCells b14_).bind fun b15_ =>
  if (decide (b15_ < 0)) = true then
    some (-1)
  else
    (plaws_szIntS k e13_.gTrail b15_).bind fun b16_ =>
    if (decide (b16_ < 0)) = true then
      some (-1)
    else
      some b16_
theorem claws_szHeap {k : Nat} {e13_ : GHeap} {b14_ : Int} {r : Int} (h : plaws_szHeap k e13_ b14_ = some r) : FnC Try.prog 28 [.agg [.sl (List.map GCell.c e13_.gCells), .sl (List.map cI.i64 e13_.gTrail)], .int .i64 b14_] (.int .i64 r) [] := by
  refine FnC.of Try.func28 (rfl : Try.f28.body = some _) (Nat.le_of_ble_eq_true (by kernel_rfl)) ?_
  intro w0 X0
  unfold plaws_szHeap at h
  refine Wc.seq ?_
  refine Wc.region [] [1, 2] [2] [] ⟨[(1, (.v (.int .i64 b14_), [])), (2, (.ptr 2 0, []))], [(2, ([.sl (List.map GCell.c e13_.gCells), .sl (List.map cI.i64 e13_.gTrail)], []))], []⟩ _ (by kernel_rfl) .nil ?_
  refine Wc.seq ?_
  obtain ⟨b15_, h11, h⟩ := obind h
  refine Wc.region [((none, []), none), ((none, []), none), ((none, []), none), ((some (.int .i64 b15_), []), none)] [1, 2] [2] [] ⟨[(1, (.v (.int .i64 b15_), [])), (2, (.ptr 2 0, []))], [(2, ([.sl (List.map GCell.c e13_.gCells), .sl (List.map cI.i64 e13_.gTrail)], []))], []⟩ _ (by kernel_rfl) (.cons (claws_szCellS h11) .nil) ?_
  refine Wc.seq ?_
  refine Wc.seq ?_
  refine Wc.region [] [1, 2, 10] [2] [] ⟨[(1, (.v (.int .i64 b15_), [])), (2, (.ptr 2 0, [])), (10, (.v (.bool (decide (b15_ < 0))), []))], [(2, ([.sl (List.map GCell.c e13_.gCells), .sl (List.map cI.i64 e13_.gTrail)], []))], []⟩ _ (by kernel_rfl) .nil ?_
  rcases oif h with ⟨h12, h⟩ | ⟨h12, h⟩
  · refine Wc.condT h12 (by kernel_rfl) ?_
    refine Wc.seq ?_
    refine Wc.region [] [4] [] [] ⟨[(4, (.v (.int .i64 (-1)), []))], [], []⟩ _ (by kernel_rfl) .nil ?_
    refine Wc.ret ?_
    obtain rfl := Option.some.inj h
    exact ⟨.inl rfl, by kernel_rfl⟩
  · refine Wc.condF h12 (by kernel_rfl) ?_
    refine Wc.keep [1, 2] [2] [] ⟨[(1, (.v (.int .i64 b15_), [])), (2, (.ptr 2 0, []))], [(2, ([.sl (List.map GCell.c e13_.gCells), .sl (List.map cI.i64 e13_.gTrail)], []))], []⟩ (by kernel_rfl) ?_
    refine Wc.skip ?_
    refine Wc.seq ?_
    obtain ⟨b16_, h13, h⟩ := obind h
    refine Wc.region [((none, []), none), ((none, []), none), ((none, []), none), ((some (.int .i64 b16_), []), none)] [1] [] [] ⟨[(1, (.v (.int .i64 b16_), []))], [], []⟩ _ (by kernel_rfl) (.cons (claws_szIntS h13) .nil) ?_
    refine Wc.seq ?_
    refine Wc.seq ?_
    refine Wc.region [] [1, 16] [] [] ⟨[(1, (.v (.int .i64 b16_), [])), (16, (.v (.bool (decide (b16_ < 0))), []))], [], []⟩ _ (by kernel_rfl) .nil ?_
    rcases oif h with ⟨h14, h⟩ | ⟨h14, h⟩
    · refine Wc.condT h14 (by kernel_rfl) ?_
      refine Wc.seq ?_
      refine Wc.region [] [4] [] [] ⟨[(4, (.v (.int .i64 (-1)), []))], [], []⟩ _ (by kernel_rfl) .nil ?_
      refine Wc.ret ?_
      obtain rfl := Option.some.inj h
      exact ⟨.inl rfl, by kernel_rfl⟩
    · refine Wc.condF h14 (by kernel_rfl) ?_
      refine Wc.keep [1] [] [] ⟨[(1, (.v (.int .i64 b16_), []))], [], []⟩ (by kernel_rfl) ?_
      refine Wc.skip ?_
      refine Wc.seq ?_
      refine Wc.region [] [4] [] [] ⟨[(4, (.v (.int .i64 b16_), []))], [], []⟩ _ (by kernel_rfl) .nil ?_
      refine Wc.ret ?_
      obtain rfl := Option.some.inj h
      exact ⟨.inl rfl, by kernel_rfl⟩

/-- spec.l01In -/
def pspec_l01In (k : Nat) (b17_ : Int) (b18_ : Int) (b19_ : Int) : Option Bool :=
  if (decide (b17_ ≥ b18_)) = true then
    some (decide (b17_ ≤ b19_))
  else
    some false
theorem cspec_l01In {k : Nat} {b17_ : Int} {b18_ : Int} {b19_ : Int} {r : Bool} (h : pspec_l01In k b17_ b18_ b19_ = some r) : FnC Try.prog 58 [.int .i64 b17_, .int .i64 b18_, .int .i64 b19_] (.bool r) [] := by
  refine FnC.of Try.func58 (rfl : Try.f58.body = some _) (Nat.le_of_ble_eq_true (by kernel_rfl)) ?_
  intro w0 X0
  unfold pspec_l01In at h
  refine Wc.seq ?_
  refine Wc.region [] [0, 1, 2] [] [] ⟨[(0, (.v (.int .i64 b17_), [])), (1, (.v (.int .i64 b18_), [])), (2, (.v (.int .i64 b19_), []))], [], []⟩ _ (by kernel_rfl) .nil ?_
  refine Wc.seq ?_
  rcases oif h with ⟨h15, h⟩ | ⟨h15, h⟩
  · refine Wc.region [((none, []), none), ((none, []), none), ((none, []), none), ((none, []), some (.bool true))] [6] [] [] ⟨[(6, (.v (.bool (decide (b17_ ≤ b19_))), []))], [], []⟩ _ (by kernel_rfl) (.cons (congrArg AV.bool h15) .nil) ?_
    refine Wc.ret ?_
    obtain rfl := Option.some.inj h
    exact ⟨.inl rfl, by kernel_rfl⟩
  · refine Wc.region [((none, []), none), ((none, []), none), ((none, []), none), ((none, []), some (.bool false))] [6] [] [] ⟨[(6, (.v (.bool false), []))], [], []⟩ _ (by kernel_rfl) (.cons (congrArg AV.bool h15) .nil) ?_
    refine Wc.ret ?_
    obtain rfl := Option.some.inj h
    exact ⟨.inl rfl, by kernel_rfl⟩

def pspec_l13Follow_L1 (k : Nat) (d20_ : List GCell) : Nat → Int → Int → Option (Out Int Unit)
  | 0, _, _ => none
  | m + 1, b22_, b23_ =>
    if (decide (b23_ ≤ (d20_.length : Int))) = true then
      (pspec_l01In k b22_ 0 (wr.i64 ((d20_.length : Int) - 1))).bind fun f24_ =>
      if (!f24_) = true then
        some (.ret (-1))
      else
        (at' d20_ b22_).bind fun c25_ =>
        if (c25_.gKind != 1) = true then
          some (.ret b22_)
        else
          (at' d20_ b22_).bind fun c26_ =>
          if (decide (c26_.gTo < 0)) = true then
            some (.ret b22_)
          else
            (at' d20_ b22_).bind fun c27_ =>
            pspec_l13Follow_L1 k d20_ m c27_.gTo (wr.i64 (b23_ + 1))
    else
      some (.done ())
/-- spec.l13Follow -/
def pspec_l13Follow (k : Nat) (d20_ : List GCell) (b21_ : Int) : Option Int :=
  (pspec_l13Follow_L1 k d20_ k b21_ 0).bind fun out1 => match out1 with
  | .ret r => some r
  | .done () =>
    some (-1)
theorem cspec_l13Follow {k : Nat} {d20_ : List GCell} {b21_ : Int} {r : Int} (h : pspec_l13Follow k d20_ b21_ = some r) : FnC Try.prog 49 [.sl (List.map GCell.c d20_), .int .i64 b21_] (.int .i64 r) [] := by
  refine FnC.of Try.func49 (rfl : Try.f49.body = some _) (Nat.le_of_ble_eq_true (by kernel_rfl)) ?_
  intro w0 X0
  unfold pspec_l13Follow at h
  refine Wc.seq ?_
  refine Wc.region [] [0, 1] [] [] ⟨[(0, (.v (.sl (List.map GCell.c d20_)), [])), (1, (.v (.int .i64 b21_), []))], [], []⟩ _ (by kernel_rfl) .nil ?_
  refine Wc.seq ?_
  refine Wc.seq ?_
  refine Wc.region [] [0, 1, 5] [] [] ⟨[(0, (.v (.sl (List.map GCell.c d20_)), [])), (1, (.v (.int .i64 b21_), [])), (5, (.v (.int .i64 0), []))], [], []⟩ _ (by kernel_rfl) .nil ?_
  obtain ⟨out1, h16, h⟩ := obind h
  refine Wc.lastJ (fun st => out1 = .done () ∧ st = ⟨[], [], []⟩) ?_ ?_
  · refine Wc.block ?_
    refine Wc.loop (fun m st => ∃ (b22_ : Int) (b23_ : Int), st = ⟨[(0, (.v (.sl (List.map GCell.c d20_)), [])), (1, (.v (.int .i64 b22_), [])), (5, (.v (.int .i64 b23_), []))], [], []⟩ ∧ pspec_l13Follow_L1 k d20_ m b22_ b23_ = some out1) ?_ k ⟨_, _, rfl, h16⟩
    rintro m st ⟨b22_, b23_, rfl, h16⟩
    cases m with
    | zero => exact (onone h16).elim
    | succ m =>
      refine Wc.seq ?_
      refine Wc.seq ?_
      refine Wc.region [((none, []), none), ((none, []), none), ((some (.int .i64 (d20_.length : Int)), []), none)] [0, 1, 5, 9] [] [] ⟨[(0, (.v (.sl (List.map GCell.c d20_)), [])), (1, (.v (.int .i64 b22_), [])), (5, (.v (.int .i64 b23_), [])), (9, (.v (.bool (decide (b23_ ≤ (d20_.length : Int)))), []))], [], []⟩ _ (by kernel_rfl) (.cons (len_obl GCell.c d20_) .nil) ?_
      rcases oif h16 with ⟨h17, h16⟩ | ⟨h17, h16⟩
      · refine Wc.condT h17 (by kernel_rfl) ?_
        refine Wc.keep [0, 1, 5] [] [] ⟨[(0, (.v (.sl (List.map GCell.c d20_)), [])), (1, (.v (.int .i64 b22_), [])), (5, (.v (.int .i64 b23_), []))], [], []⟩ (by kernel_rfl) ?_
        refine Wc.skip ?_
        refine Wc.seq ?_
        refine Wc.block ?_
        refine Wc.seq ?_
        refine Wc.seq ?_
        obtain ⟨f24_, h18, h16⟩ := obind h16
        refine Wc.region [((none, []), none), ((none, []), none), ((some (.int .i64 (d20_.length : Int)), []), none), ((none, []), none), ((some (.bool f24_), []), none)] [0, 1, 5, 17] [] [] ⟨[(0, (.v (.sl (List.map GCell.c d20_)), [])), (1, (.v (.int .i64 b22_), [])), (5, (.v (.int .i64 b23_), [])), (17, (.v (.bool (!f24_)), []))], [], []⟩ _ (by kernel_rfl) (.cons (len_obl GCell.c d20_) (.cons (cspec_l01In h18) .nil)) ?_
        rcases oif h16 with ⟨h19, h16⟩ | ⟨h19, h16⟩
        · refine Wc.condT h19 (by kernel_rfl) ?_
          refine Wc.seq ?_
          refine Wc.region [] [4] [] [] ⟨[(4, (.v (.int .i64 (-1)), []))], [], []⟩ _ (by kernel_rfl) .nil ?_
          refine Wc.ret ?_
          obtain rfl := Option.some.inj h16
          obtain rfl := Option.some.inj h
          exact ⟨.inl rfl, by kernel_rfl⟩
        · refine Wc.condF h19 (by kernel_rfl) ?_
          refine Wc.keep [0, 1, 5] [] [] ⟨[(0, (.v (.sl (List.map GCell.c d20_)), [])), (1, (.v (.int .i64 b22_), [])), (5, (.v (.int .i64 b23_), []))], [], []⟩ (by kernel_rfl) ?_
          refine Wc.skip ?_
          refine Wc.seq ?_
          refine Wc.seq ?_
          obtain ⟨c25_, h20, h16⟩ := obind h16
          rcases oif h16 with ⟨h21, h16⟩ | ⟨h21, h16⟩
          · refine Wc.region [((none, []), none), ((none, []), none), ((some (.vptr [.int .i64 c25_.gKind, .str c25_.gName, .int .i64 c25_.gNum, .int .i64 c25_.gTo, .sl (List.map cI.i64 c25_.gKids)]), []), none), ((none, []), none), ((none, []), none), ((none, []), none), ((none, []), some (.bool true))] [0, 1, 5, 31] [] [] ⟨[(0, (.v (.sl (List.map GCell.c d20_)), [])), (1, (.v (.int .i64 b22_), [])), (5, (.v (.int .i64 b23_), [])), (31, (.v (.bool true), []))], [], []⟩ _ (by kernel_rfl) (.cons (at_obl (c := GCell.c) (GCell.c_eq c25_) GCell.c_len h20) (.cons (len_ok 1 [.int .i64 c25_.gKind, .str c25_.gName, .int .i64 c25_.gNum, .int .i64 c25_.gTo, .sl (List.map cI.i64 c25_.gKids)]) (.cons (congrArg AV.bool h21) .nil))) ?_
            refine Wc.condT rfl (by kernel_rfl) ?_
            refine Wc.seq ?_
            refine Wc.region [] [4] [] [] ⟨[(4, (.v (.int .i64 b22_), []))], [], []⟩ _ (by kernel_rfl) .nil ?_
            refine Wc.ret ?_
            obtain rfl := Option.some.inj h16
            obtain rfl := Option.some.inj h
            exact ⟨.inl rfl, by kernel_rfl⟩
          · obtain ⟨c26_, h22, h16⟩ := obind h16
            refine Wc.region [((none, []), none), ((none, []), none), ((some (.vptr [.int .i64 c25_.gKind, .str c25_.gName, .int .i64 c25_.gNum, .int .i64 c25_.gTo, .sl (List.map cI.i64 c25_.gKids)]), []), none), ((none, []), none), ((none, []), none), ((none, []), none), ((none, []), some (.bool false)), ((none, []), none), ((none, []), none), ((some (.vptr [.int .i64 c26_.gKind, .str c26_.gName, .int .i64 c26_.gNum, .int .i64 c26_.gTo, .sl (List.map cI.i64 c26_.gKids)]), []), none)] [0, 1, 5, 31] [] [] ⟨[(0, (.v (.sl (List.map GCell.c d20_)), [])), (1, (.v (.int .i64 b22_), [])), (5, (.v (.int .i64 b23_), [])), (31, (.v (.bool (decide (c26_.gTo < 0))), []))], [], []⟩ _ (by kernel_rfl) (.cons (at_obl (c := GCell.c) (GCell.c_eq c25_) GCell.c_len h20) (.cons (len_ok 1 [.int .i64 c25_.gKind, .str c25_.gName, .int .i64 c25_.gNum, .int .i64 c25_.gTo, .sl (List.map cI.i64 c25_.gKids)]) (.cons (congrArg AV.bool h21) (.cons (at_obl (c := GCell.c) (GCell.c_eq c26_) GCell.c_len h22) (.cons (len_ok 1 [.int .i64 c26_.gTo, .sl (List.map cI.i64 c26_.gKids)]) .nil))))) ?_
            rcases oif h16 with ⟨h23, h16⟩ | ⟨h23, h16⟩
            · refine Wc.condT h23 (by kernel_rfl) ?_
              refine Wc.seq ?_
              refine Wc.region [] [4] [] [] ⟨[(4, (.v (.int .i64 b22_), []))], [], []⟩ _ (by kernel_rfl) .nil ?_
              refine Wc.ret ?_
              obtain rfl := Option.some.inj h16
              obtain rfl := Option.some.inj h
              exact ⟨.inl rfl, by kernel_rfl⟩
            · refine Wc.condF h23 (by kernel_rfl) ?_
              refine Wc.keep [0, 1, 5] [] [] ⟨[(0, (.v (.sl (List.map GCell.c d20_)), [])), (1, (.v (.int .i64 b22_), [])), (5, (.v (.int .i64 b23_), []))], [], []⟩ (by kernel_rfl) ?_
              refine Wc.skip ?_
              obtain ⟨c27_, h24, h16⟩ := obind h16
              refine Wc.region [((none, []), none), ((none, []), none), ((some (.vptr [.int .i64 c27_.gKind, .str c27_.gName, .int .i64 c27_.gNum, .int .i64 c27_.gTo, .sl (List.map cI.i64 c27_.gKids)]), []), none)] [0, 1, 5] [] [] ⟨[(0, (.v (.sl (List.map GCell.c d20_)), [])), (1, (.v (.int .i64 c27_.gTo), [])), (5, (.v (.int .i64 b23_), []))], [], []⟩ _ (by kernel_rfl) (.cons (at_obl (c := GCell.c) (GCell.c_eq c27_) GCell.c_len h24) (.cons (len_ok 1 [.int .i64 c27_.gTo, .sl (List.map cI.i64 c27_.gKids)]) .nil)) ?_
              refine Wc.region [] [0, 1, 5] [] [] ⟨[(0, (.v (.sl (List.map GCell.c d20_)), [])), (1, (.v (.int .i64 c27_.gTo), [])), (5, (.v (.int .i64 (wr.i64 (b23_ + 1))), []))], [], []⟩ _ (by kernel_rfl) .nil ?_
              exact ⟨_, Nat.lt_succ_self _, _, _, rfl, h16⟩
      · refine Wc.condF h17 (by kernel_rfl) ?_
        refine Wc.keep [] [] [] ⟨[], [], []⟩ (by kernel_rfl) ?_
        refine Wc.exit ?_
        obtain rfl := Option.some.inj h16
        exact ⟨rfl, rfl⟩
  · rintro st ⟨rfl, rfl⟩
    refine Wc.seq ?_
    refine Wc.region [] [4] [] [] ⟨[(4, (.v (.int .i64 (-1)), []))], [], []⟩ _ (by kernel_rfl) .nil ?_
    refine Wc.ret ?_
    obtain rfl := Option.some.inj h
    exact ⟨.inl rfl, by kernel_rfl⟩

/-- spec.FollowCell -/
def pspec_FollowCell (k : Nat) (e28_ : GHeap) (b29_ : Int) : Option Int :=
  (pspec_l13Follow k e28_.gCells b29_).bind fun b30_ =>
  some b30_
theorem cspec_FollowCell {k : Nat} {e28_ : GHeap} {b29_ : Int} {r : Int} (h : pspec_FollowCell k e28_ b29_ = some r) : FnC Try.prog 29 [.agg [.sl (List.map GCell.c e28_.gCells), .sl (List.map cI.i64 e28_.gTrail)], .int .i64 b29_] (.int .i64 r) [] := by
  refine FnC.of Try.func29 (rfl : Try.f29.body = some _) (Nat.le_of_ble_eq_true (by kernel_rfl)) ?_
  intro w0 X0
  unfold pspec_FollowCell at h
  refine Wc.seq ?_
  refine Wc.region [] [1, 2] [2] [] ⟨[(1, (.v (.int .i64 b29_), [])), (2, (.ptr 2 0, []))], [(2, ([.sl (List.map GCell.c e28_.gCells), .sl (List.map cI.i64 e28_.gTrail)], []))], []⟩ _ (by kernel_rfl) .nil ?_
  refine Wc.seq ?_
  obtain ⟨b30_, h25, h⟩ := obind h
  refine Wc.region [((none, []), none), ((none, []), none), ((none, []), none), ((some (.int .i64 b30_), []), none)] [4] [] [] ⟨[(4, (.v (.int .i64 b30_), []))], [], []⟩ _ (by kernel_rfl) (.cons (cspec_l13Follow h25) .nil) ?_
  refine Wc.ret ?_
  obtain rfl := Option.some.inj h
  exact ⟨.inl rfl, by kernel_rfl⟩

def plaws_toIntS_L1 (k : Nat) (a31_ : List Int) : Nat → Int → (List Int) → Option (Out (List Int) (List Int))
  | 0, _, _ => none
  | m + 1, b32_, a33_ =>
    if (decide (b32_ < (a31_.length : Int))) = true then
      (at' a31_ b32_).bind fun b35_ =>
      if 0 ≤ b32_ ∧ (b32_).toNat < a33_.length then
        plaws_toIntS_L1 k a31_ m (wr.i64 (b32_ + 1)) (a33_.set ((b32_).toNat) b35_)
      else none
    else
      some (.done a33_)
/-- laws.toIntS -/
def plaws_toIntS (k : Nat) (a31_ : List Int) : Option (List Int) :=
  if 0 ≤ (a31_.length : Int) ∧ (a31_.length : Int) ≤ 1073741824 then
    (plaws_toIntS_L1 k a31_ k 0 (List.replicate ((a31_.length : Int)).toNat 0)).bind fun out1 => match out1 with
    | .ret r => some r
    | .done a34_ =>
      some a34_
  else none
theorem claws_toIntS {k : Nat} {a31_ : List Int} {r : List Int} (h : plaws_toIntS k a31_ = some r) : FnC Try.prog 51 [.sl (List.map cI.i64 a31_)] (.sl (List.map cI.i64 r)) [] := by
  refine FnC.of Try.func51 (rfl : Try.f51.body = some _) (Nat.le_of_ble_eq_true (by kernel_rfl)) ?_
  intro w0 X0
  unfold plaws_toIntS at h
  refine Wc.seq ?_
  refine Wc.region [((none, []), some (.sl (List.map cI.i64 [])))] [0] [] [] ⟨[(0, (.v (.sl (List.map cI.i64 a31_)), []))], [], []⟩ _ (by kernel_rfl) (.cons (nil_re cI.i64) .nil) ?_
  refine Wc.seq ?_
  obtain ⟨h26, h⟩ := oguard h
  refine Wc.region [((none, []), none), ((some (.int .i64 (a31_.length : Int)), []), none)] [0, 3] [] [7] ⟨[(0, (.v (.sl (List.map cI.i64 a31_)), [])), (3, (.arr 7, []))], [], [(7, (1, List.replicate ((a31_.length : Int)).toNat [.int .i64 0]))]⟩ _ (by kernel_rfl) (.cons (len_obl cI.i64 a31_) (.cons (ms_obl h26) .nil)) ?_
  refine Wc.re (congrArg (St.mk _ _) ((rc_re (rep_re (c := cI.i64) rfl _) rfl) : _ = [(7, (1, List.map cI.i64 (List.replicate ((a31_.length : Int)).toNat 0)))])) ?_
  refine Wc.seq ?_
  refine Wc.seq ?_
  refine Wc.region [] [0, 3, 4] [] [7] ⟨[(0, (.v (.sl (List.map cI.i64 a31_)), [])), (3, (.arr 7, [])), (4, (.v (.int .i64 0), []))], [], [(7, (1, List.map cI.i64 (List.replicate ((a31_.length : Int)).toNat 0)))]⟩ _ (by kernel_rfl) .nil ?_
  obtain ⟨out1, h27, h⟩ := obind h
  refine Wc.lastJ (fun st => ∃ (a34_ : List Int), out1 = .done a34_ ∧ st = ⟨[(3, (.arr 7, []))], [], [(7, (1, List.map cI.i64 a34_))]⟩) ?_ ?_
  · refine Wc.block ?_
    refine Wc.loop (fun m st => ∃ (b32_ : Int) (a33_ : List Int), st = ⟨[(0, (.v (.sl (List.map cI.i64 a31_)), [])), (3, (.arr 7, [])), (4, (.v (.int .i64 b32_), []))], [], [(7, (1, List.map cI.i64 a33_))]⟩ ∧ plaws_toIntS_L1 k a31_ m b32_ a33_ = some out1) ?_ k ⟨_, _, rfl, h27⟩
    rintro m st ⟨b32_, a33_, rfl, h27⟩
    cases m with
    | zero => exact (onone h27).elim
    | succ m =>
      refine Wc.seq ?_
      refine Wc.seq ?_
      refine Wc.region [((none, []), none), ((none, []), none), ((some (.int .i64 (a31_.length : Int)), []), none)] [0, 3, 4, 11] [] [7] ⟨[(0, (.v (.sl (List.map cI.i64 a31_)), [])), (3, (.arr 7, [])), (4, (.v (.int .i64 b32_), [])), (11, (.v (.bool (decide (b32_ < (a31_.length : Int)))), []))], [], [(7, (1, List.map cI.i64 a33_))]⟩ _ (by kernel_rfl) (.cons (len_obl cI.i64 a31_) .nil) ?_
      rcases oif h27 with ⟨h28, h27⟩ | ⟨h28, h27⟩
      · refine Wc.condT h28 (by kernel_rfl) ?_
        refine Wc.keep [0, 3, 4] [] [7] ⟨[(0, (.v (.sl (List.map cI.i64 a31_)), [])), (3, (.arr 7, [])), (4, (.v (.int .i64 b32_), []))], [], [(7, (1, List.map cI.i64 a33_))]⟩ (by kernel_rfl) ?_
        refine Wc.skip ?_
        refine Wc.seq ?_
        refine Wc.block ?_
        obtain ⟨b35_, h29, h27⟩ := obind h27
        obtain ⟨h30, h27⟩ := oguard h27
        refine Wc.region [((none, []), none), ((none, []), none), ((none, []), none), ((none, []), none), ((some (.vptr [.int .i64 b35_]), []), none)] [0, 3, 4] [] [7] ⟨[(0, (.v (.sl (List.map cI.i64 a31_)), [])), (3, (.arr 7, [])), (4, (.v (.int .i64 b32_), []))], [], [(7, (1, (List.map cI.i64 a33_).modify ((b32_).toNat) (fun c => setAll c 0 [.int .i64 b35_])))]⟩ _ (by kernel_rfl) (.cons (at_obl (c := cI.i64) rfl cI.i64_len h29) (.cons (len_ok 1 [.int .i64 b35_]) (.cons (arr_obl (c := cI.i64) h30) (.cons (arr_obl (c := cI.i64) h30).2 .nil)))) ?_
        refine Wc.re (congrArg (St.mk _ _) ((rc_re (mod_re (c := cI.i64) rfl cI.i64_len _ _) rfl) : _ = [(7, (1, List.map cI.i64 (a33_.set ((b32_).toNat) b35_)))])) ?_
        refine Wc.region [] [0, 3, 4] [] [7] ⟨[(0, (.v (.sl (List.map cI.i64 a31_)), [])), (3, (.arr 7, [])), (4, (.v (.int .i64 (wr.i64 (b32_ + 1))), []))], [], [(7, (1, List.map cI.i64 (a33_.set ((b32_).toNat) b35_)))]⟩ _ (by kernel_rfl) .nil ?_
        exact ⟨_, Nat.lt_succ_self _, _, _, rfl, h27⟩
      · refine Wc.condF h28 (by kernel_rfl) ?_
        refine Wc.keep [3] [] [7] ⟨[(3, (.arr 7, []))], [], [(7, (1, List.map cI.i64 a33_))]⟩ (by kernel_rfl) ?_
        refine Wc.exit ?_
        obtain rfl := Option.some.inj h27
        exact ⟨_, rfl, rfl⟩
  · rintro st ⟨a34_, rfl, rfl⟩
    refine Wc.seq ?_
    refine Wc.region [] [2] [] [7] ⟨[(2, (.arr 7, []))], [], [(7, (1, List.map cI.i64 a34_))]⟩ _ (by kernel_rfl) .nil ?_
    refine Wc.ret ?_
    obtain rfl := Option.some.inj h
    exact ⟨.inl rfl, by kernel_rfl⟩

/-- laws.toCell -/
def plaws_toCell (k : Nat) (c36_ : GCell) : Option GCell :=
  (plaws_toIntS k c36_.gKids).bind fun a37_ =>
  some (GCell.mk c36_.gKind c36_.gName c36_.gNum c36_.gTo a37_)
theorem claws_toCell {k : Nat} {c36_ : GCell} {r : GCell} (h : plaws_toCell k c36_ = some r) : FnC Try.prog 64 [.agg [.int .i64 c36_.gKind, .str c36_.gName, .int .i64 c36_.gNum, .int .i64 c36_.gTo, .sl (List.map cI.i64 c36_.gKids)]] (.agg [.int .i64 r.gKind, .str r.gName, .int .i64 r.gNum, .int .i64 r.gTo, .sl (List.map cI.i64 r.gKids)]) [] := by
  refine FnC.of Try.func64 (rfl : Try.f64.body = some _) (Nat.le_of_ble_eq_true (by kernel_rfl)) ?_
  intro w0 X0
  unfold plaws_toCell at h
  refine Wc.seq ?_
  refine Wc.region [] [1, 2] [1, 2] [] ⟨[(1, (.ptr 1 0, [])), (2, (.ptr 2 0, []))], [(1, ([.int .i64 c36_.gKind, .str c36_.gName, .int .i64 c36_.gNum, .int .i64 c36_.gTo, .sl (List.map cI.i64 c36_.gKids)], [])), (2, ([.int .i64 0, .str (bs []), .int .i64 0, .int .i64 0, .sl (List.map cI.i64 [])], [(4, 3)]))], []⟩ _ (by kernel_rfl) .nil ?_
  refine Wc.seq ?_
  refine Wc.region [] [1, 2, 3] [1, 2, 3] [] ⟨[(1, (.ptr 1 0, [])), (2, (.ptr 2 0, [])), (3, (.ptr 3 0, []))], [(1, ([.int .i64 c36_.gKind, .str c36_.gName, .int .i64 c36_.gNum, .int .i64 c36_.gTo, .sl (List.map cI.i64 c36_.gKids)], [])), (2, ([.int .i64 0, .str (bs []), .int .i64 0, .int .i64 0, .sl (List.map cI.i64 [])], [(4, 3)])), (3, ([.int .i64 0, .str (bs []), .int .i64 0, .int .i64 0, .sl (List.map cI.i64 [])], [(4, 3)]))], []⟩ _ (by kernel_rfl) .nil ?_
  refine Wc.seq ?_
  refine Wc.region [] [1, 2, 3] [1, 2, 3] [] ⟨[(1, (.ptr 1 0, [])), (2, (.ptr 2 0, [])), (3, (.ptr 3 0, []))], [(1, ([.int .i64 c36_.gKind, .str c36_.gName, .int .i64 c36_.gNum, .int .i64 c36_.gTo, .sl (List.map cI.i64 c36_.gKids)], [])), (2, ([.int .i64 0, .str (bs []), .int .i64 0, .int .i64 0, .sl (List.map cI.i64 [])], [(4, 3)])), (3, ([.int .i64 c36_.gKind, .str (bs []), .int .i64 0, .int .i64 0, .sl (List.map cI.i64 [])], [(4, 3)]))], []⟩ _ (by kernel_rfl) .nil ?_
  refine Wc.seq ?_
  refine Wc.region [] [1, 2, 3] [1, 2, 3] [] ⟨[(1, (.ptr 1 0, [])), (2, (.ptr 2 0, [])), (3, (.ptr 3 0, []))], [(1, ([.int .i64 c36_.gKind, .str c36_.gName, .int .i64 c36_.gNum, .int .i64 c36_.gTo, .sl (List.map cI.i64 c36_.gKids)], [])), (2, ([.int .i64 0, .str (bs []), .int .i64 0, .int .i64 0, .sl (List.map cI.i64 [])], [(4, 3)])), (3, ([.int .i64 c36_.gKind, .str c36_.gName, .int .i64 0, .int .i64 0, .sl (List.map cI.i64 [])], [(4, 3)]))], []⟩ _ (by kernel_rfl) .nil ?_
  refine Wc.seq ?_
  refine Wc.region [] [1, 2, 3] [1, 2, 3] [] ⟨[(1, (.ptr 1 0, [])), (2, (.ptr 2 0, [])), (3, (.ptr 3 0, []))], [(1, ([.int .i64 c36_.gKind, .str c36_.gName, .int .i64 c36_.gNum, .int .i64 c36_.gTo, .sl (List.map cI.i64 c36_.gKids)], [])), (2, ([.int .i64 0, .str (bs []), .int .i64 0, .int .i64 0, .sl (List.map cI.i64 [])], [(4, 3)])), (3, ([.int .i64 c36_.gKind, .str c36_.gName, .int .i64 c36_.gNum, .int .i64 0, .sl (List.map cI.i64 [])], [(4, 3)]))], []⟩ _ (by kernel_rfl) .nil ?_
  refine Wc.seq ?_
  refine Wc.region [] [1, 2, 3] [1, 2, 3] [] ⟨[(1, (.ptr 1 0, [])), (2, (.ptr 2 0, [])), (3, (.ptr 3 0, []))], [(1, ([.int .i64 c36_.gKind, .str c36_.gName, .int .i64 c36_.gNum, .int .i64 c36_.gTo, .sl (List.map cI.i64 c36_.gKids)], [])), (2, ([.int .i64 0, .str (bs []), .int .i64 0, .int .i64 0, .sl (List.map cI.i64 [])], [(4, 3)])), (3, ([.int .i64 c36_.gKind, .str c36_.gName, .int .i64 c36_.gNum, .int .i64 c36_.gTo, .sl (List.map cI.i64 [])], [(4, 3)]))], []⟩ _ (by kernel_rfl) .nil ?_
  refine Wc.seq ?_
  obtain ⟨a37_, h31, h⟩ := obind h
  refine Wc.region [((none, []), none), ((none, []), none), ((some (.sl (List.map cI.i64 a37_)), []), none)] [2, 3] [2, 3] [] ⟨[(2, (.ptr 2 0, [])), (3, (.ptr 3 0, []))], [(2, ([.int .i64 0, .str (bs []), .int .i64 0, .int .i64 0, .sl (List.map cI.i64 [])], [(4, 3)])), (3, ([.int .i64 c36_.gKind, .str c36_.gName, .int .i64 c36_.gNum, .int .i64 c36_.gTo, .sl (List.map cI.i64 a37_)], []))], []⟩ _ (by kernel_rfl) (.cons (claws_toIntS h31) .nil) ?_
  refine Wc.seq ?_
  refine Wc.region [] [2] [2] [] ⟨[(2, (.ptr 2 0, []))], [(2, ([.int .i64 c36_.gKind, .str c36_.gName, .int .i64 c36_.gNum, .int .i64 c36_.gTo, .sl (List.map cI.i64 a37_)], []))], []⟩ _ (by kernel_rfl) .nil ?_
  refine Wc.ret ?_
  obtain rfl := Option.some.inj h
  exact ⟨.inl rfl, by kernel_rfl⟩

def plaws_toCellS_L1 (k : Nat) (d38_ : List GCell) : Nat → Int → (List GCell) → Option (Out (List GCell) (List GCell))
  | 0, _, _ => none
  | m + 1, b39_, d40_ =>
    if (decide (b39_ < (d38_.length : Int))) = true then
      (at' d38_ b39_).bind fun c42_ =>
      (plaws_toCell k c42_).bind fun c43_ =>
      if 0 ≤ b39_ ∧ (b39_).toNat < d40_.length then
        plaws_toCellS_L1 k d38_ m (wr.i64 (b39_ + 1)) (d40_.set ((b39_).toNat) c43_)
      else none
    else
      some (.done d40_)
/-- laws.toCellS -/
def plaws_toCellS (k : Nat) (d38_ : List GCell) : Option (List GCell) :=
  if 0 ≤ (d38_.length : Int) ∧ (d38_.length : Int) ≤ 1073741824 then
    (plaws_toCellS_L1 k d38_ k 0 (List.replicate ((d38_.length : Int)).toNat (GCell.mk 0 (bs []) 0 0 []))).bind fun out1 => match out1 with
    | .ret r => some r
    | .done d41_ =>
      some d41_
  else none
theorem claws_toCellS {k : Nat} {d38_ : List GCell} {r : List GCell} (h : plaws_toCellS k d38_ = some r) : FnC Try.prog 50 [.sl (List.map GCell.c d38_)] (.sl (List.map GCell.c r)) [] := by
  refine FnC.of Try.func50 (rfl : Try.f50.body = some _) (Nat.le_of_ble_eq_true (by kernel_rfl)) ?_
  intro w0 X0
  unfold plaws_toCellS at h
  refine Wc.seq ?_
  refine Wc.region [((none, []), some (.sl (List.map GCell.c [])))] [0] [] [] ⟨[(0, (.v (.sl (List.map GCell.c d38_)), []))], [], []⟩ _ (by kernel_rfl) (.cons (nil_re GCell.c) .nil) ?_
  refine Wc.seq ?_
  obtain ⟨h32, h⟩ := oguard h
  refine Wc.region [((none, []), none), ((some (.int .i64 (d38_.length : Int)), []), none)] [0, 3] [] [7] ⟨[(0, (.v (.sl (List.map GCell.c d38_)), [])), (3, (.arr 7, []))], [], [(7, (5, List.replicate ((d38_.length : Int)).toNat [.int .i64 0, .str (bs []), .int .i64 0, .int .i64 0, .sl (List.map cI.i64 [])]))]⟩ _ (by kernel_rfl) (.cons (len_obl GCell.c d38_) (.cons (ms_obl h32) .nil)) ?_
  refine Wc.re (congrArg (St.mk _ _) ((rc_re (rep_re (c := GCell.c) (GCell.c_eq (GCell.mk 0 (bs []) 0 0 [])) _) rfl) : _ = [(7, (5, List.map GCell.c (List.replicate ((d38_.length : Int)).toNat (GCell.mk 0 (bs []) 0 0 []))))])) ?_
  refine Wc.seq ?_
  refine Wc.seq ?_
  refine Wc.region [] [0, 3, 4] [] [7] ⟨[(0, (.v (.sl (List.map GCell.c d38_)), [])), (3, (.arr 7, [])), (4, (.v (.int .i64 0), []))], [], [(7, (5, List.map GCell.c (List.replicate ((d38_.length : Int)).toNat (GCell.mk 0 (bs []) 0 0 []))))]⟩ _ (by kernel_rfl) .nil ?_
  obtain ⟨out1, h33, h⟩ := obind h
  refine Wc.lastJ (fun st => ∃ (d41_ : List GCell), out1 = .done d41_ ∧ st = ⟨[(3, (.arr 7, []))], [], [(7, (5, List.map GCell.c d41_))]⟩) ?_ ?_
  · refine Wc.block ?_
    refine Wc.loop (fun m st => ∃ (b39_ : Int) (d40_ : List GCell), st = ⟨[(0, (.v (.sl (List.map GCell.c d38_)), [])), (3, (.arr 7, [])), (4, (.v (.int .i64 b39_), []))], [], [(7, (5, List.map GCell.c d40_))]⟩ ∧ plaws_toCellS_L1 k d38_ m b39_ d40_ = some out1) ?_ k ⟨_, _, rfl, h33⟩
    rintro m st ⟨b39_, d40_, rfl, h33⟩
    cases m with
    | zero => exact (onone h33).elim
    | succ m =>
      refine Wc.seq ?_
      refine Wc.seq ?_
      refine Wc.region [((none, []), none), ((none, []), none), ((some (.int .i64 (d38_.length : Int)), []), none)] [0, 3, 4, 11] [] [7] ⟨[(0, (.v (.sl (List.map GCell.c d38_)), [])), (3, (.arr 7, [])), (4, (.v (.int .i64 b39_), [])), (11, (.v (.bool (decide (b39_ < (d38_.length : Int)))), []))], [], [(7, (5, List.map GCell.c d40_))]⟩ _ (by kernel_rfl) (.cons (len_obl GCell.c d38_) .nil) ?_
      rcases oif h33 with ⟨h34, h33⟩ | ⟨h34, h33⟩
      · refine Wc.condT h34 (by kernel_rfl) ?_
        refine Wc.keep [0, 3, 4] [] [7] ⟨[(0, (.v (.sl (List.map GCell.c d38_)), [])), (3, (.arr 7, [])), (4, (.v (.int .i64 b39_), []))], [], [(7, (5, List.map GCell.c d40_))]⟩ (by kernel_rfl) ?_
        refine Wc.skip ?_
        refine Wc.seq ?_
        refine Wc.block ?_
        obtain ⟨c42_, h35, h33⟩ := obind h33
        obtain ⟨c43_, h36, h33⟩ := obind h33
        obtain ⟨h37, h33⟩ := oguard h33
        refine Wc.region [((none, []), none), ((none, []), none), ((none, []), none), ((none, []), none), ((some (.vptr [.int .i64 c42_.gKind, .str c42_.gName, .int .i64 c42_.gNum, .int .i64 c42_.gTo, .sl (List.map cI.i64 c42_.gKids)]), []), none), ((none, []), none), ((some (.agg [.int .i64 c43_.gKind, .str c43_.gName, .int .i64 c43_.gNum, .int .i64 c43_.gTo, .sl (List.map cI.i64 c43_.gKids)]), []), none)] [0, 3, 4] [] [7] ⟨[(0, (.v (.sl (List.map GCell.c d38_)), [])), (3, (.arr 7, [])), (4, (.v (.int .i64 b39_), []))], [], [(7, (5, (List.map GCell.c d40_).modify ((b39_).toNat) (fun c => setAll c 0 [.int .i64 c43_.gKind, .str c43_.gName, .int .i64 c43_.gNum, .int .i64 c43_.gTo, .sl (List.map cI.i64 c43_.gKids)])))]⟩ _ (by kernel_rfl) (.cons (at_obl (c := GCell.c) (GCell.c_eq c42_) GCell.c_len h35) (.cons (len_ok 5 [.int .i64 c42_.gKind, .str c42_.gName, .int .i64 c42_.gNum, .int .i64 c42_.gTo, .sl (List.map cI.i64 c42_.gKids)]) (.cons (claws_toCell h36) (.cons (arr_obl (c := GCell.c) h37) (.cons (arr_obl (c := GCell.c) h37).2 .nil))))) ?_
        refine Wc.re (congrArg (St.mk _ _) ((rc_re (mod_re (c := GCell.c) (GCell.c_eq c43_) GCell.c_len _ _) rfl) : _ = [(7, (5, List.map GCell.c (d40_.set ((b39_).toNat) c43_)))])) ?_
        refine Wc.region [] [0, 3, 4] [] [7] ⟨[(0, (.v (.sl (List.map GCell.c d38_)), [])), (3, (.arr 7, [])), (4, (.v (.int .i64 (wr.i64 (b39_ + 1))), []))], [], [(7, (5, List.map GCell.c (d40_.set ((b39_).toNat) c43_)))]⟩ _ (by kernel_rfl) .nil ?_
        exact ⟨_, Nat.lt_succ_self _, _, _, rfl, h33⟩
      · refine Wc.condF h34 (by kernel_rfl) ?_
        refine Wc.keep [3] [] [7] ⟨[(3, (.arr 7, []))], [], [(7, (5, List.map GCell.c d40_))]⟩ (by kernel_rfl) ?_
        refine Wc.exit ?_
        obtain rfl := Option.some.inj h33
        exact ⟨_, rfl, rfl⟩
  · rintro st ⟨d41_, rfl, rfl⟩
    refine Wc.seq ?_
    refine Wc.region [] [2] [] [7] ⟨[(2, (.arr 7, []))], [], [(7, (5, List.map GCell.c d41_))]⟩ _ (by kernel_rfl) .nil ?_
    refine Wc.ret ?_
    obtain rfl := Option.some.inj h
    exact ⟨.inl rfl, by kernel_rfl⟩

/-- laws.toHeap -/
def plaws_toHeap (k : Nat) (e44_ : GHeap) : Option GHeap :=
  (plaws_toCellS k e44_.gCells).bind fun d45_ =>
  (plaws_toIntS k e44_.gTrail).bind fun a46_ =>
  some (GHeap.mk d45_ a46_)
theorem claws_toHeap {k : Nat} {e44_ : GHeap} {r : GHeap} (h : plaws_toHeap k e44_ = some r) : FnC Try.prog 30 [.agg [.sl (List.map GCell.c e44_.gCells), .sl (List.map cI.i64 e44_.gTrail)]] (.agg [.sl (List.map GCell.c r.gCells), .sl (List.map cI.i64 r.gTrail)]) [] := by
  refine FnC.of Try.func30 (rfl : Try.f30.body = some _) (Nat.le_of_ble_eq_true (by kernel_rfl)) ?_
  intro w0 X0
  unfold plaws_toHeap at h
  refine Wc.seq ?_
  refine Wc.region [] [1, 2] [1, 2] [] ⟨[(1, (.ptr 1 0, [])), (2, (.ptr 2 0, []))], [(1, ([.sl (List.map GCell.c e44_.gCells), .sl (List.map cI.i64 e44_.gTrail)], [])), (2, ([.sl (List.map GCell.c []), .sl (List.map cI.i64 [])], [(0, 99), (1, 3)]))], []⟩ _ (by kernel_rfl) .nil ?_
  refine Wc.seq ?_
  refine Wc.region [] [1, 2, 3] [1, 2, 3] [] ⟨[(1, (.ptr 1 0, [])), (2, (.ptr 2 0, [])), (3, (.ptr 3 0, []))], [(1, ([.sl (List.map GCell.c e44_.gCells), .sl (List.map cI.i64 e44_.gTrail)], [])), (2, ([.sl (List.map GCell.c []), .sl (List.map cI.i64 [])], [(0, 99), (1, 3)])), (3, ([.sl (List.map GCell.c []), .sl (List.map cI.i64 [])], [(0, 99), (1, 3)]))], []⟩ _ (by kernel_rfl) .nil ?_
  refine Wc.seq ?_
  obtain ⟨d45_, h38, h⟩ := obind h
  refine Wc.region [((none, []), none), ((none, []), none), ((some (.sl (List.map GCell.c d45_)), []), none)] [1, 2, 3] [1, 2, 3] [] ⟨[(1, (.ptr 1 0, [])), (2, (.ptr 2 0, [])), (3, (.ptr 3 0, []))], [(1, ([.sl (List.map GCell.c e44_.gCells), .sl (List.map cI.i64 e44_.gTrail)], [])), (2, ([.sl (List.map GCell.c []), .sl (List.map cI.i64 [])], [(0, 99), (1, 3)])), (3, ([.sl (List.map GCell.c d45_), .sl (List.map cI.i64 [])], [(1, 3)]))], []⟩ _ (by kernel_rfl) (.cons (claws_toCellS h38) .nil) ?_
  refine Wc.seq ?_
  obtain ⟨a46_, h39, h⟩ := obind h
  refine Wc.region [((none, []), none), ((none, []), none), ((some (.sl (List.map cI.i64 a46_)), []), none)] [2, 3] [2, 3] [] ⟨[(2, (.ptr 2 0, [])), (3, (.ptr 3 0, []))], [(2, ([.sl (List.map GCell.c []), .sl (List.map cI.i64 [])], [(0, 99), (1, 3)])), (3, ([.sl (List.map GCell.c d45_), .sl (List.map cI.i64 a46_)], []))], []⟩ _ (by kernel_rfl) (.cons (claws_toIntS h39) .nil) ?_
  refine Wc.seq ?_
  refine Wc.region [] [2] [2] [] ⟨[(2, (.ptr 2 0, []))], [(2, ([.sl (List.map GCell.c d45_), .sl (List.map cI.i64 a46_)], []))], []⟩ _ (by kernel_rfl) .nil ?_
  refine Wc.ret ?_
  obtain rfl := Option.some.inj h
  exact ⟨.inl rfl, by kernel_rfl⟩

/-- impl.within -/
def pimpl_within (k : Nat) (b47_ : Int) (b48_ : Int) (b49_ : Int) : Option Bool :=
  if (decide (b47_ ≥ b48_)) = true then
    some (decide (b47_ ≤ b49_))
  else
    some false
theorem cimpl_within {k : Nat} {b47_ : Int} {b48_ : Int} {b49_ : Int} {r : Bool} (h : pimpl_within k b47_ b48_ b49_ = some r) : FnC Try.prog 59 [.int .i64 b47_, .int .i64 b48_, .int .i64 b49_] (.bool r) [] := by
  refine FnC.of Try.func59 (rfl : Try.f59.body = some _) (Nat.le_of_ble_eq_true (by kernel_rfl)) ?_
  intro w0 X0
  unfold pimpl_within at h
  refine Wc.seq ?_
  refine Wc.region [] [0, 1, 2] [] [] ⟨[(0, (.v (.int .i64 b47_), [])), (1, (.v (.int .i64 b48_), [])), (2, (.v (.int .i64 b49_), []))], [], []⟩ _ (by kernel_rfl) .nil ?_
  refine Wc.seq ?_
  rcases oif h with ⟨h40, h⟩ | ⟨h40, h⟩
  · refine Wc.region [((none, []), none), ((none, []), none), ((none, []), none), ((none, []), some (.bool true))] [6] [] [] ⟨[(6, (.v (.bool (decide (b47_ ≤ b49_))), []))], [], []⟩ _ (by kernel_rfl) (.cons (congrArg AV.bool h40) .nil) ?_
    refine Wc.ret ?_
    obtain rfl := Option.some.inj h
    exact ⟨.inl rfl, by kernel_rfl⟩
  · refine Wc.region [((none, []), none), ((none, []), none), ((none, []), none), ((none, []), some (.bool false))] [6] [] [] ⟨[(6, (.v (.bool false), []))], [], []⟩ _ (by kernel_rfl) (.cons (congrArg AV.bool h40) .nil) ?_
    refine Wc.ret ?_
    obtain rfl := Option.some.inj h
    exact ⟨.inl rfl, by kernel_rfl⟩

/-- impl.isCell -/
def pimpl_isCell (k : Nat) (e50_ : GHeap) (b51_ : Int) : Option Bool :=
  (pimpl_within k b51_ 0 (wr.i64 ((e50_.gCells.length : Int) - 1))).bind fun f52_ =>
  some f52_
theorem cimpl_isCell {k : Nat} {e50_ : GHeap} {b51_ : Int} {r : Bool} (h : pimpl_isCell k e50_ b51_ = some r) : FnC Try.prog 65 [.agg [.sl (List.map GCell.c e50_.gCells), .sl (List.map cI.i64 e50_.gTrail)], .int .i64 b51_] (.bool r) [] := by
  refine FnC.of Try.func65 (rfl : Try.f65.body = some _) (Nat.le_of_ble_eq_true (by kernel_rfl)) ?_
  intro w0 X0
  unfold pimpl_isCell at h
  refine Wc.seq ?_
  refine Wc.region [] [1, 2] [2] [] ⟨[(1, (.v (.int .i64 b51_), [])), (2, (.ptr 2 0, []))], [(2, ([.sl (List.map GCell.c e50_.gCells), .sl (List.map cI.i64 e50_.gTrail)], []))], []⟩ _ (by kernel_rfl) .nil ?_
  refine Wc.seq ?_
  obtain ⟨f52_, h41, h⟩ := obind h
  refine Wc.region [((none, []), none), ((none, []), none), ((none, []), none), ((some (.int .i64 (e50_.gCells.length : Int)), []), none), ((none, []), none), ((some (.bool f52_), []), none)] [4] [] [] ⟨[(4, (.v (.bool f52_), []))], [], []⟩ _ (by kernel_rfl) (.cons (len_obl GCell.c e50_.gCells) (.cons (cimpl_within h41) .nil)) ?_
  refine Wc.ret ?_
  obtain rfl := Option.some.inj h
  exact ⟨.inl rfl, by kernel_rfl⟩

def pimpl_follow_L1 (k : Nat) (e53_ : GHeap) : Nat → Int → Int → Option (Out Int Unit)
  | 0, _, _ => none
  | m + 1, b55_, b56_ =>
    if (decide (b56_ < (wr.i64 ((e53_.gCells.length : Int) + 1)))) = true then
      (pimpl_isCell k e53_ b55_).bind fun f57_ =>
      if (!f57_) = true then
        some (.ret (-1))
      else
        (at' e53_.gCells b55_).bind fun c58_ =>
        if (c58_.gKind != 1) = true then
          some (.ret b55_)
        else
          if (decide (c58_.gTo < 0)) = true then
            some (.ret b55_)
          else
            (at' e53_.gCells b55_).bind fun c59_ =>
            pimpl_follow_L1 k e53_ m c59_.gTo (wr.i64 (b56_ + 1))
    else
      some (.done ())
/-- impl.follow -/
def pimpl_follow (k : Nat) (e53_ : GHeap) (b54_ : Int) : Option Int :=
  (pimpl_follow_L1 k e53_ k b54_ 0).bind fun out1 => match out1 with
  | .ret r => some r
  | .done () =>
    some (-1)
theorem cimpl_follow {k : Nat} {e53_ : GHeap} {b54_ : Int} {r : Int} (h : pimpl_follow k e53_ b54_ = some r) : FnC Try.prog 52 [.agg [.sl (List.map GCell.c e53_.gCells), .sl (List.map cI.i64 e53_.gTrail)], .int .i64 b54_] (.int .i64 r) [] := by
  refine FnC.of Try.func52 (rfl : Try.f52.body = some _) (Nat.le_of_ble_eq_true (by kernel_rfl)) ?_
  intro w0 X0
  unfold pimpl_follow at h
  refine Wc.seq ?_
  refine Wc.region [] [1, 2] [2] [] ⟨[(1, (.v (.int .i64 b54_), [])), (2, (.ptr 2 0, []))], [(2, ([.sl (List.map GCell.c e53_.gCells), .sl (List.map cI.i64 e53_.gTrail)], []))], []⟩ _ (by kernel_rfl) .nil ?_
  refine Wc.seq ?_
  refine Wc.seq ?_
  refine Wc.region [((none, []), none), ((none, []), none), ((some (.int .i64 (e53_.gCells.length : Int)), []), none)] [1, 2, 9, 10] [2] [] ⟨[(1, (.v (.int .i64 b54_), [])), (2, (.ptr 2 0, [])), (9, (.v (.int .i64 (wr.i64 ((e53_.gCells.length : Int) + 1))), [])), (10, (.v (.int .i64 0), []))], [(2, ([.sl (List.map GCell.c e53_.gCells), .sl (List.map cI.i64 e53_.gTrail)], []))], []⟩ _ (by kernel_rfl) (.cons (len_obl GCell.c e53_.gCells) .nil) ?_
  obtain ⟨out1, h42, h⟩ := obind h
  refine Wc.lastJ (fun st => out1 = .done () ∧ st = ⟨[], [], []⟩) ?_ ?_
  · refine Wc.block ?_
    refine Wc.loop (fun m st => ∃ (b55_ : Int) (b56_ : Int), st = ⟨[(1, (.v (.int .i64 b55_), [])), (2, (.ptr 2 0, [])), (9, (.v (.int .i64 (wr.i64 ((e53_.gCells.length : Int) + 1))), [])), (10, (.v (.int .i64 b56_), []))], [(2, ([.sl (List.map GCell.c e53_.gCells), .sl (List.map cI.i64 e53_.gTrail)], []))], []⟩ ∧ pimpl_follow_L1 k e53_ m b55_ b56_ = some out1) ?_ k ⟨_, _, rfl, h42⟩
    rintro m st ⟨b55_, b56_, rfl, h42⟩
    cases m with
    | zero => exact (onone h42).elim
    | succ m =>
      refine Wc.seq ?_
      refine Wc.region [] [1, 2, 9, 10, 11] [2] [] ⟨[(1, (.v (.int .i64 b55_), [])), (2, (.ptr 2 0, [])), (9, (.v (.int .i64 (wr.i64 ((e53_.gCells.length : Int) + 1))), [])), (10, (.v (.int .i64 b56_), [])), (11, (.v (.bool (decide (b56_ < (wr.i64 ((e53_.gCells.length : Int) + 1))))), []))], [(2, ([.sl (List.map GCell.c e53_.gCells), .sl (List.map cI.i64 e53_.gTrail)], []))], []⟩ _ (by kernel_rfl) .nil ?_
      refine Wc.seq ?_
      rcases oif h42 with ⟨h43, h42⟩ | ⟨h43, h42⟩
      · refine Wc.condT h43 (by kernel_rfl) ?_
        refine Wc.keep [1, 2, 9, 10] [2] [] ⟨[(1, (.v (.int .i64 b55_), [])), (2, (.ptr 2 0, [])), (9, (.v (.int .i64 (wr.i64 ((e53_.gCells.length : Int) + 1))), [])), (10, (.v (.int .i64 b56_), []))], [(2, ([.sl (List.map GCell.c e53_.gCells), .sl (List.map cI.i64 e53_.gTrail)], []))], []⟩ (by kernel_rfl) ?_
        refine Wc.skip ?_
        refine Wc.seq ?_
        refine Wc.block ?_
        refine Wc.seq ?_
        refine Wc.seq ?_
        obtain ⟨f57_, h44, h42⟩ := obind h42
        refine Wc.region [((none, []), none), ((none, []), none), ((some (.bool f57_), []), none)] [1, 2, 9, 10, 15] [2] [] ⟨[(1, (.v (.int .i64 b55_), [])), (2, (.ptr 2 0, [])), (9, (.v (.int .i64 (wr.i64 ((e53_.gCells.length : Int) + 1))), [])), (10, (.v (.int .i64 b56_), [])), (15, (.v (.bool (!f57_)), []))], [(2, ([.sl (List.map GCell.c e53_.gCells), .sl (List.map cI.i64 e53_.gTrail)], []))], []⟩ _ (by kernel_rfl) (.cons (cimpl_isCell h44) .nil) ?_
        rcases oif h42 with ⟨h45, h42⟩ | ⟨h45, h42⟩
        · refine Wc.condT h45 (by kernel_rfl) ?_
          refine Wc.seq ?_
          refine Wc.region [] [4] [] [] ⟨[(4, (.v (.int .i64 (-1)), []))], [], []⟩ _ (by kernel_rfl) .nil ?_
          refine Wc.ret ?_
          obtain rfl := Option.some.inj h42
          obtain rfl := Option.some.inj h
          exact ⟨.inl rfl, by kernel_rfl⟩
        · refine Wc.condF h45 (by kernel_rfl) ?_
          refine Wc.keep [1, 2, 9, 10] [2] [] ⟨[(1, (.v (.int .i64 b55_), [])), (2, (.ptr 2 0, [])), (9, (.v (.int .i64 (wr.i64 ((e53_.gCells.length : Int) + 1))), [])), (10, (.v (.int .i64 b56_), []))], [(2, ([.sl (List.map GCell.c e53_.gCells), .sl (List.map cI.i64 e53_.gTrail)], []))], []⟩ (by kernel_rfl) ?_
          refine Wc.skip ?_
          refine Wc.seq ?_
          refine Wc.seq ?_
          obtain ⟨c58_, h46, h42⟩ := obind h42
          refine Wc.region [((none, []), none), ((none, []), none), ((none, []), none), ((some (.vptr [.int .i64 c58_.gKind, .str c58_.gName, .int .i64 c58_.gNum, .int .i64 c58_.gTo, .sl (List.map cI.i64 c58_.gKids)]), []), none)] [1, 2, 5, 9, 10] [2, 5] [] ⟨[(1, (.v (.int .i64 b55_), [])), (2, (.ptr 2 0, [])), (5, (.ptr 5 0, [])), (9, (.v (.int .i64 (wr.i64 ((e53_.gCells.length : Int) + 1))), [])), (10, (.v (.int .i64 b56_), []))], [(2, ([.sl (List.map GCell.c e53_.gCells), .sl (List.map cI.i64 e53_.gTrail)], [])), (5, ([.int .i64 c58_.gKind, .str c58_.gName, .int .i64 c58_.gNum, .int .i64 c58_.gTo, .sl (List.map cI.i64 c58_.gKids)], []))], []⟩ _ (by kernel_rfl) (.cons (at_obl (c := GCell.c) (GCell.c_eq c58_) GCell.c_len h46) (.cons (len_ok 5 [.int .i64 c58_.gKind, .str c58_.gName, .int .i64 c58_.gNum, .int .i64 c58_.gTo, .sl (List.map cI.i64 c58_.gKids)]) .nil)) ?_
          refine Wc.seq ?_
          rcases oif h42 with ⟨h47, h42⟩ | ⟨h47, h42⟩
          · refine Wc.region [((none, []), none), ((none, []), none), ((none, []), none), ((none, []), some (.bool true))] [1, 2, 9, 10, 28] [2] [] ⟨[(1, (.v (.int .i64 b55_), [])), (2, (.ptr 2 0, [])), (9, (.v (.int .i64 (wr.i64 ((e53_.gCells.length : Int) + 1))), [])), (10, (.v (.int .i64 b56_), [])), (28, (.v (.bool true), []))], [(2, ([.sl (List.map GCell.c e53_.gCells), .sl (List.map cI.i64 e53_.gTrail)], []))], []⟩ _ (by kernel_rfl) (.cons (congrArg AV.bool h47) .nil) ?_
            refine Wc.condT rfl (by kernel_rfl) ?_
            refine Wc.seq ?_
            refine Wc.region [] [4] [] [] ⟨[(4, (.v (.int .i64 b55_), []))], [], []⟩ _ (by kernel_rfl) .nil ?_
            refine Wc.ret ?_
            obtain rfl := Option.some.inj h42
            obtain rfl := Option.some.inj h
            exact ⟨.inl rfl, by kernel_rfl⟩
          · refine Wc.region [((none, []), none), ((none, []), none), ((none, []), none), ((none, []), some (.bool false))] [1, 2, 9, 10, 28] [2] [] ⟨[(1, (.v (.int .i64 b55_), [])), (2, (.ptr 2 0, [])), (9, (.v (.int .i64 (wr.i64 ((e53_.gCells.length : Int) + 1))), [])), (10, (.v (.int .i64 b56_), [])), (28, (.v (.bool (decide (c58_.gTo < 0))), []))], [(2, ([.sl (List.map GCell.c e53_.gCells), .sl (List.map cI.i64 e53_.gTrail)], []))], []⟩ _ (by kernel_rfl) (.cons (congrArg AV.bool h47) .nil) ?_
            rcases oif h42 with ⟨h48, h42⟩ | ⟨h48, h42⟩
            · refine Wc.condT h48 (by kernel_rfl) ?_
              refine Wc.seq ?_
              refine Wc.region [] [4] [] [] ⟨[(4, (.v (.int .i64 b55_), []))], [], []⟩ _ (by kernel_rfl) .nil ?_
              refine Wc.ret ?_
              obtain rfl := Option.some.inj h42
              obtain rfl := Option.some.inj h
              exact ⟨.inl rfl, by kernel_rfl⟩
            · refine Wc.condF h48 (by kernel_rfl) ?_
              refine Wc.keep [1, 2, 9, 10] [2] [] ⟨[(1, (.v (.int .i64 b55_), [])), (2, (.ptr 2 0, [])), (9, (.v (.int .i64 (wr.i64 ((e53_.gCells.length : Int) + 1))), [])), (10, (.v (.int .i64 b56_), []))], [(2, ([.sl (List.map GCell.c e53_.gCells), .sl (List.map cI.i64 e53_.gTrail)], []))], []⟩ (by kernel_rfl) ?_
              refine Wc.skip ?_
              obtain ⟨c59_, h49, h42⟩ := obind h42
              refine Wc.region [((none, []), none), ((none, []), none), ((none, []), none), ((some (.vptr [.int .i64 c59_.gKind, .str c59_.gName, .int .i64 c59_.gNum, .int .i64 c59_.gTo, .sl (List.map cI.i64 c59_.gKids)]), []), none)] [1, 2, 9, 10] [2] [] ⟨[(1, (.v (.int .i64 c59_.gTo), [])), (2, (.ptr 2 0, [])), (9, (.v (.int .i64 (wr.i64 ((e53_.gCells.length : Int) + 1))), [])), (10, (.v (.int .i64 b56_), []))], [(2, ([.sl (List.map GCell.c e53_.gCells), .sl (List.map cI.i64 e53_.gTrail)], []))], []⟩ _ (by kernel_rfl) (.cons (at_obl (c := GCell.c) (GCell.c_eq c59_) GCell.c_len h49) (.cons (len_ok 1 [.int .i64 c59_.gTo, .sl (List.map cI.i64 c59_.gKids)]) .nil)) ?_
              refine Wc.region [] [1, 2, 9, 10] [2] [] ⟨[(1, (.v (.int .i64 c59_.gTo), [])), (2, (.ptr 2 0, [])), (9, (.v (.int .i64 (wr.i64 ((e53_.gCells.length : Int) + 1))), [])), (10, (.v (.int .i64 (wr.i64 (b56_ + 1))), []))], [(2, ([.sl (List.map GCell.c e53_.gCells), .sl (List.map cI.i64 e53_.gTrail)], []))], []⟩ _ (by kernel_rfl) .nil ?_
              exact ⟨_, Nat.lt_succ_self _, _, _, rfl, h42⟩
      · refine Wc.condF h43 (by kernel_rfl) ?_
        refine Wc.keep [] [] [] ⟨[], [], []⟩ (by kernel_rfl) ?_
        refine Wc.exit ?_
        obtain rfl := Option.some.inj h42
        exact ⟨rfl, rfl⟩
  · rintro st ⟨rfl, rfl⟩
    refine Wc.seq ?_
    refine Wc.region [] [4] [] [] ⟨[(4, (.v (.int .i64 (-1)), []))], [], []⟩ _ (by kernel_rfl) .nil ?_
    refine Wc.ret ?_
    obtain rfl := Option.some.inj h
    exact ⟨.inl rfl, by kernel_rfl⟩

/-- impl.FollowCell -/
def pimpl_FollowCell (k : Nat) (e60_ : GHeap) (b61_ : Int) : Option Int :=
  (pimpl_follow k e60_ b61_).bind fun b62_ =>
  some b62_
theorem cimpl_FollowCell {k : Nat} {e60_ : GHeap} {b61_ : Int} {r : Int} (h : pimpl_FollowCell k e60_ b61_ = some r) : FnC Try.prog 31 [.agg [.sl (List.map GCell.c e60_.gCells), .sl (List.map cI.i64 e60_.gTrail)], .int .i64 b61_] (.int .i64 r) [] := by
  refine FnC.of Try.func31 (rfl : Try.f31.body = some _) (Nat.le_of_ble_eq_true (by kernel_rfl)) ?_
  intro w0 X0
  unfold pimpl_FollowCell at h
  refine Wc.seq ?_
  refine Wc.region [] [1, 2] [2] [] ⟨[(1, (.v (.int .i64 b61_), [])), (2, (.ptr 2 0, []))], [(2, ([.sl (List.map GCell.c e60_.gCells), .sl (List.map cI.i64 e60_.gTrail)], []))], []⟩ _ (by kernel_rfl) .nil ?_
  refine Wc.seq ?_
  obtain ⟨b62_, h50, h⟩ := obind h
  refine Wc.region [((none, []), none), ((none, []), none), ((some (.int .i64 b62_), []), none)] [4] [] [] ⟨[(4, (.v (.int .i64 b62_), []))], [], []⟩ _ (by kernel_rfl) (.cons (cimpl_follow h50) .nil) ?_
  refine Wc.ret ?_
  obtain rfl := Option.some.inj h
  exact ⟨.inl rfl, by kernel_rfl⟩

def plaws_eqIntS_L1 (k : Nat) (a63_ : List Int) (a64_ : List Int) : Nat → Int → Option (Out Bool Unit)
  | 0, _ => none
  | m + 1, b65_ =>
    if (decide (b65_ < (a63_.length : Int))) = true then
      (at' a63_ b65_).bind fun b66_ =>
      (at' a64_ b65_).bind fun b67_ =>
      if (b66_ != b67_) = true then
        some (.ret false)
      else
        plaws_eqIntS_L1 k a63_ a64_ m (wr.i64 (b65_ + 1))
    else
      some (.done ())
/-- laws.eqIntS -/
def plaws_eqIntS (k : Nat) (a63_ : List Int) (a64_ : List Int) : Option Bool :=
  if ((a63_.length : Int) != (a64_.length : Int)) = true then
    some false
  else
    (plaws_eqIntS_L1 k a63_ a64_ k 0).bind fun out1 => match out1 with
    | .ret r => some r
    | .done () =>
      some true
theorem claws_eqIntS {k : Nat} {a63_ : List Int} {a64_ : List Int} {r : Bool} (h : plaws_eqIntS k a63_ a64_ = some r) : FnC Try.prog 54 [.sl (List.map cI.i64 a63_), .sl (List.map cI.i64 a64_)] (.bool r) [] := by
  refine FnC.of Try.func54 (rfl : Try.f54.body = some _) (Nat.le_of_ble_eq_true (by kernel_rfl)) ?_
  intro w0 X0
  unfold plaws_eqIntS at h
  refine Wc.seq ?_
  refine Wc.region [] [0, 1] [] [] ⟨[(0, (.v (.sl (List.map cI.i64 a63_)), [])), (1, (.v (.sl (List.map cI.i64 a64_)), []))], [], []⟩ _ (by kernel_rfl) .nil ?_
  refine Wc.seq ?_
  refine Wc.seq ?_
  refine Wc.region [((none, []), none), ((some (.int .i64 (a63_.length : Int)), []), none), ((none, []), none), ((some (.int .i64 (a64_.length : Int)), []), none)] [0, 1, 10] [] [] ⟨[(0, (.v (.sl (List.map cI.i64 a63_)), [])), (1, (.v (.sl (List.map cI.i64 a64_)), [])), (10, (.v (.bool ((a63_.length : Int) != (a64_.length : Int))), []))], [], []⟩ _ (by kernel_rfl) (.cons (len_obl cI.i64 a63_) (.cons (len_obl cI.i64 a64_) .nil)) ?_
  rcases oif h with ⟨h51, h⟩ | ⟨h51, h⟩
  · refine Wc.condT h51 (by kernel_rfl) ?_
    refine Wc.seq ?_
    refine Wc.region [] [4] [] [] ⟨[(4, (.v (.bool false), []))], [], []⟩ _ (by kernel_rfl) .nil ?_
    refine Wc.ret ?_
    obtain rfl := Option.some.inj h
    exact ⟨.inl rfl, by kernel_rfl⟩
  · refine Wc.condF h51 (by kernel_rfl) ?_
    refine Wc.keep [0, 1] [] [] ⟨[(0, (.v (.sl (List.map cI.i64 a63_)), [])), (1, (.v (.sl (List.map cI.i64 a64_)), []))], [], []⟩ (by kernel_rfl) ?_
    refine Wc.skip ?_
    refine Wc.seq ?_
    refine Wc.seq ?_
    refine Wc.region [] [0, 1, 5] [] [] ⟨[(0, (.v (.sl (List.map cI.i64 a63_)), [])), (1, (.v (.sl (List.map cI.i64 a64_)), [])), (5, (.v (.int .i64 0), []))], [], []⟩ _ (by kernel_rfl) .nil ?_
    obtain ⟨out1, h52, h⟩ := obind h
    refine Wc.lastJ (fun st => out1 = .done () ∧ st = ⟨[], [], []⟩) ?_ ?_
    · refine Wc.block ?_
      refine Wc.loop (fun m st => ∃ (b65_ : Int), st = ⟨[(0, (.v (.sl (List.map cI.i64 a63_)), [])), (1, (.v (.sl (List.map cI.i64 a64_)), [])), (5, (.v (.int .i64 b65_), []))], [], []⟩ ∧ plaws_eqIntS_L1 k a63_ a64_ m b65_ = some out1) ?_ k ⟨_, rfl, h52⟩
      rintro m st ⟨b65_, rfl, h52⟩
      cases m with
      | zero => exact (onone h52).elim
      | succ m =>
        refine Wc.seq ?_
        refine Wc.seq ?_
        refine Wc.region [((none, []), none), ((none, []), none), ((some (.int .i64 (a63_.length : Int)), []), none)] [0, 1, 5, 14] [] [] ⟨[(0, (.v (.sl (List.map cI.i64 a63_)), [])), (1, (.v (.sl (List.map cI.i64 a64_)), [])), (5, (.v (.int .i64 b65_), [])), (14, (.v (.bool (decide (b65_ < (a63_.length : Int)))), []))], [], []⟩ _ (by kernel_rfl) (.cons (len_obl cI.i64 a63_) .nil) ?_
        rcases oif h52 with ⟨h53, h52⟩ | ⟨h53, h52⟩
        · refine Wc.condT h53 (by kernel_rfl) ?_
          refine Wc.keep [0, 1, 5] [] [] ⟨[(0, (.v (.sl (List.map cI.i64 a63_)), [])), (1, (.v (.sl (List.map cI.i64 a64_)), [])), (5, (.v (.int .i64 b65_), []))], [], []⟩ (by kernel_rfl) ?_
          refine Wc.skip ?_
          refine Wc.seq ?_
          refine Wc.block ?_
          refine Wc.seq ?_
          obtain ⟨b66_, h54, h52⟩ := obind h52
          obtain ⟨b67_, h55, h52⟩ := obind h52
          refine Wc.draw hmix [((none, []), none), ((none, []), none), ((some (.vptr [.int .i64 b66_]), []), none), ((none, []), none), ((none, []), none), ((none, []), none), ((some (.vptr [.int .i64 b67_]), []), none)] [0, 1, 5, 25] [] [] ⟨[(0, (.v (.sl (List.map cI.i64 a63_)), [])), (1, (.v (.sl (List.map cI.i64 a64_)), [])), (5, (.v (.int .i64 b65_), [])), (25, (.v (.bool (b66_ != b67_)), []))], [], []⟩ _ (by kernel_rfl) (.cons (at_obl (c := cI.i64) rfl cI.i64_len h54) (.cons (len_ok 1 [.int .i64 b66_]) (.cons (at_obl (c := cI.i64) rfl cI.i64_len h55) (.cons (len_ok 1 [.int .i64 b67_]) .nil)))) ?_
          rcases oif h52 with ⟨h56, h52⟩ | ⟨h56, h52⟩
          · refine Wc.condT h56 (by kernel_rfl) ?_
            refine Wc.seq ?_
            refine Wc.region [] [4] [] [] ⟨[(4, (.v (.bool false), []))], [], []⟩ _ (by kernel_rfl) .nil ?_
            refine Wc.ret ?_
            obtain rfl := Option.some.inj h52
            obtain rfl := Option.some.inj h
            exact ⟨.inl rfl, by kernel_rfl⟩
          · refine Wc.condF h56 (by kernel_rfl) ?_
            refine Wc.keep [0, 1, 5] [] [] ⟨[(0, (.v (.sl (List.map cI.i64 a63_)), [])), (1, (.v (.sl (List.map cI.i64 a64_)), [])), (5, (.v (.int .i64 b65_), []))], [], []⟩ (by kernel_rfl) ?_
            refine Wc.skip ?_
            refine Wc.region [] [0, 1, 5] [] [] ⟨[(0, (.v (.sl (List.map cI.i64 a63_)), [])), (1, (.v (.sl (List.map cI.i64 a64_)), [])), (5, (.v (.int .i64 (wr.i64 (b65_ + 1))), []))], [], []⟩ _ (by kernel_rfl) .nil ?_
            exact ⟨_, Nat.lt_succ_self _, _, rfl, h52⟩
        · refine Wc.condF h53 (by kernel_rfl) ?_
          refine Wc.keep [] [] [] ⟨[], [], []⟩ (by kernel_rfl) ?_
          refine Wc.exit ?_
          obtain rfl := Option.some.inj h52
          exact ⟨rfl, rfl⟩
    · rintro st ⟨rfl, rfl⟩
      refine Wc.seq ?_
      refine Wc.region [] [4] [] [] ⟨[(4, (.v (.bool true), []))], [], []⟩ _ (by kernel_rfl) .nil ?_
      refine Wc.ret ?_
      obtain rfl := Option.some.inj h
      exact ⟨.inl rfl, by kernel_rfl⟩

/-- laws.eqCell -/
def plaws_eqCell (k : Nat) (c68_ : GCell) (c69_ : GCell) : Option Bool :=
  if (c68_.gKind != c69_.gKind) = true then
    some false
  else
    if (!(sEq c68_.gName c69_.gName)) = true then
      some false
    else
      if (c68_.gNum != c69_.gNum) = true then
        some false
      else
        if (c68_.gTo != c69_.gTo) = true then
          some false
        else
          (plaws_eqIntS k c68_.gKids c69_.gKids).bind fun f70_ =>
          if (!f70_) = true then
            some false
          else
            some true
theorem claws_eqCell {k : Nat} {c68_ : GCell} {c69_ : GCell} {r : Bool} (h : plaws_eqCell k c68_ c69_ = some r) : FnC Try.prog 66 [.agg [.int .i64 c68_.gKind, .str c68_.gName, .int .i64 c68_.gNum, .int .i64 c68_.gTo, .sl (List.map cI.i64 c68_.gKids)], .agg [.int .i64 c69_.gKind, .str c69_.gName, .int .i64 c69_.gNum, .int .i64 c69_.gTo, .sl (List.map cI.i64 c69_.gKids)]] (.bool r) [] := by
  refine FnC.of Try.func66 (rfl : Try.f66.body = some _) (Nat.le_of_ble_eq_true (by kernel_rfl)) ?_
  intro w0 X0
  unfold plaws_eqCell at h
  refine Wc.seq ?_
  refine Wc.region [] [2, 3] [2, 3] [] ⟨[(2, (.ptr 2 0, [])), (3, (.ptr 3 0, []))], [(2, ([.int .i64 c68_.gKind, .str c68_.gName, .int .i64 c68_.gNum, .int .i64 c68_.gTo, .sl (List.map cI.i64 c68_.gKids)], [])), (3, ([.int .i64 c69_.gKind, .str c69_.gName, .int .i64 c69_.gNum, .int .i64 c69_.gTo, .sl (List.map cI.i64 c69_.gKids)], []))], []⟩ _ (by kernel_rfl) .nil ?_
  refine Wc.seq ?_
  refine Wc.seq ?_
  refine Wc.region [] [2, 3, 9] [2, 3] [] ⟨[(2, (.ptr 2 0, [])), (3, (.ptr 3 0, [])), (9, (.v (.bool (c68_.gKind != c69_.gKind)), []))], [(2, ([.int .i64 c68_.gKind, .str c68_.gName, .int .i64 c68_.gNum, .int .i64 c68_.gTo, .sl (List.map cI.i64 c68_.gKids)], [])), (3, ([.int .i64 c69_.gKind, .str c69_.gName, .int .i64 c69_.gNum, .int .i64 c69_.gTo, .sl (List.map cI.i64 c69_.gKids)], []))], []⟩ _ (by kernel_rfl) .nil ?_
  rcases oif h with ⟨h57, h⟩ | ⟨h57, h⟩
  · refine Wc.condT h57 (by kernel_rfl) ?_
    refine Wc.seq ?_
    refine Wc.region [] [4] [] [] ⟨[(4, (.v (.bool false), []))], [], []⟩ _ (by kernel_rfl) .nil ?_
    refine Wc.ret ?_
    obtain rfl := Option.some.inj h
    exact ⟨.inl rfl, by kernel_rfl⟩
  · refine Wc.condF h57 (by kernel_rfl) ?_
    refine Wc.keep [2, 3] [2, 3] [] ⟨[(2, (.ptr 2 0, [])), (3, (.ptr 3 0, []))], [(2, ([.int .i64 c68_.gKind, .str c68_.gName, .int .i64 c68_.gNum, .int .i64 c68_.gTo, .sl (List.map cI.i64 c68_.gKids)], [])), (3, ([.int .i64 c69_.gKind, .str c69_.gName, .int .i64 c69_.gNum, .int .i64 c69_.gTo, .sl (List.map cI.i64 c69_.gKids)], []))], []⟩ (by kernel_rfl) ?_
    refine Wc.skip ?_
    refine Wc.seq ?_
    refine Wc.seq ?_
    refine Wc.region [] [2, 3, 14] [2, 3] [] ⟨[(2, (.ptr 2 0, [])), (3, (.ptr 3 0, [])), (14, (.v (.bool (!(sEq c68_.gName c69_.gName))), []))], [(2, ([.int .i64 c68_.gKind, .str c68_.gName, .int .i64 c68_.gNum, .int .i64 c68_.gTo, .sl (List.map cI.i64 c68_.gKids)], [])), (3, ([.int .i64 c69_.gKind, .str c69_.gName, .int .i64 c69_.gNum, .int .i64 c69_.gTo, .sl (List.map cI.i64 c69_.gKids)], []))], []⟩ _ (by kernel_rfl) .nil ?_
    rcases oif h with ⟨h58, h⟩ | ⟨h58, h⟩
    · refine Wc.condT h58 (by kernel_rfl) ?_
      refine Wc.seq ?_
      refine Wc.region [] [4] [] [] ⟨[(4, (.v (.bool false), []))], [], []⟩ _ (by kernel_rfl) .nil ?_
      refine Wc.ret ?_
      obtain rfl := Option.some.inj h
      exact ⟨.inl rfl, by kernel_rfl⟩
    · refine Wc.condF h58 (by kernel_rfl) ?_
      refine Wc.keep [2, 3] [2, 3] [] ⟨[(2, (.ptr 2 0, [])), (3, (.ptr 3 0, []))], [(2, ([.int .i64 c68_.gKind, .str c68_.gName, .int .i64 c68_.gNum, .int .i64 c68_.gTo, .sl (List.map cI.i64 c68_.gKids)], [])), (3, ([.int .i64 c69_.gKind, .str c69_.gName, .int .i64 c69_.gNum, .int .i64 c69_.gTo, .sl (List.map cI.i64 c69_.gKids)], []))], []⟩ (by kernel_rfl) ?_
      refine Wc.skip ?_
      refine Wc.seq ?_
      refine Wc.seq ?_
      refine Wc.region [] [2, 3, 19] [2, 3] [] ⟨[(2, (.ptr 2 0, [])), (3, (.ptr 3 0, [])), (19, (.v (.bool (c68_.gNum != c69_.gNum)), []))], [(2, ([.int .i64 c68_.gKind, .str c68_.gName, .int .i64 c68_.gNum, .int .i64 c68_.gTo, .sl (List.map cI.i64 c68_.gKids)], [])), (3, ([.int .i64 c69_.gKind, .str c69_.gName, .int .i64 c69_.gNum, .int .i64 c69_.gTo, .sl (List.map cI.i64 c69_.gKids)], []))], []⟩ _ (by kernel_rfl) .nil ?_
      rcases oif h with ⟨h59, h⟩ | ⟨h59, h⟩
      · refine Wc.condT h59 (by kernel_rfl) ?_
        refine Wc.seq ?_
        refine Wc.region [] [4] [] [] ⟨[(4, (.v (.bool false), []))], [], []⟩ _ (by kernel_rfl) .nil ?_
        refine Wc.ret ?_
        obtain rfl := Option.some.inj h
        exact ⟨.inl rfl, by kernel_rfl⟩
      · refine Wc.condF h59 (by kernel_rfl) ?_
        refine Wc.keep [2, 3] [2, 3] [] ⟨[(2, (.ptr 2 0, [])), (3, (.ptr 3 0, []))], [(2, ([.int .i64 c68_.gKind, .str c68_.gName, .int .i64 c68_.gNum, .int .i64 c68_.gTo, .sl (List.map cI.i64 c68_.gKids)], [])), (3, ([.int .i64 c69_.gKind, .str c69_.gName, .int .i64 c69_.gNum, .int .i64 c69_.gTo, .sl (List.map cI.i64 c69_.gKids)], []))], []⟩ (by kernel_rfl) ?_
        refine Wc.skip ?_
        refine Wc.seq ?_
        refine Wc.seq ?_
        refine Wc.region [] [2, 3, 24] [2, 3] [] ⟨[(2, (.ptr 2 0, [])), (3, (.ptr 3 0, [])), (24, (.v (.bool (c68_.gTo != c69_.gTo)), []))], [(2, ([.int .i64 c68_.gKind, .str c68_.gName, .int .i64 c68_.gNum, .int .i64 c68_.gTo, .sl (List.map cI.i64 c68_.gKids)], [])), (3, ([.int .i64 c69_.gKind, .str c69_.gName, .int .i64 c69_.gNum, .int .i64 c69_.gTo, .sl (List.map cI.i64 c69_.gKids)], []))], []⟩ _ (by kernel_rfl) .nil ?_
        rcases oif h with ⟨h60, h⟩ | ⟨h60, h⟩
        · refine Wc.condT h60 (by kernel_rfl) ?_
          refine Wc.seq ?_
          refine Wc.region [] [4] [] [] ⟨[(4, (.v (.bool false), []))], [], []⟩ _ (by kernel_rfl) .nil ?_
          refine Wc.ret ?_
          obtain rfl := Option.some.inj h
          exact ⟨.inl rfl, by kernel_rfl⟩
        · refine Wc.condF h60 (by kernel_rfl) ?_
          refine Wc.keep [2, 3] [2, 3] [] ⟨[(2, (.ptr 2 0, [])), (3, (.ptr 3 0, []))], [(2, ([.int .i64 c68_.gKind, .str c68_.gName, .int .i64 c68_.gNum, .int .i64 c68_.gTo, .sl (List.map cI.i64 c68_.gKids)], [])), (3, ([.int .i64 c69_.gKind, .str c69_.gName, .int .i64 c69_.gNum, .int .i64 c69_.gTo, .sl (List.map cI.i64 c69_.gKids)], []))], []⟩ (by kernel_rfl) ?_
          refine Wc.skip ?_
          refine Wc.seq ?_
          refine Wc.seq ?_
          obtain ⟨f70_, h61, h⟩ := obind h
          refine Wc.region [((none, []), none), ((none, []), none), ((none, []), none), ((none, []), none), ((some (.bool f70_), []), none)] [30] [] [] ⟨[(30, (.v (.bool (!f70_)), []))], [], []⟩ _ (by kernel_rfl) (.cons (claws_eqIntS h61) .nil) ?_
          rcases oif h with ⟨h62, h⟩ | ⟨h62, h⟩
          · refine Wc.condT h62 (by kernel_rfl) ?_
            refine Wc.seq ?_
            refine Wc.region [] [4] [] [] ⟨[(4, (.v (.bool false), []))], [], []⟩ _ (by kernel_rfl) .nil ?_
            refine Wc.ret ?_
            obtain rfl := Option.some.inj h
            exact ⟨.inl rfl, by kernel_rfl⟩
          · refine Wc.condF h62 (by kernel_rfl) ?_
            refine Wc.keep [] [] [] ⟨[], [], []⟩ (by kernel_rfl) ?_
            refine Wc.skip ?_
            refine Wc.seq ?_
            refine Wc.region [] [4] [] [] ⟨[(4, (.v (.bool true), []))], [], []⟩ _ (by kernel_rfl) .nil ?_
            refine Wc.ret ?_
            obtain rfl := Option.some.inj h
            exact ⟨.inl rfl, by kernel_rfl⟩

def plaws_eqCellS_L1 (k : Nat) (d71_ : List GCell) (d72_ : List GCell) : Nat → Int → Option (Out Bool Unit)
  | 0, _ => none
  | m + 1, b73_ =>
    if (decide (b73_ < (d71_.length : Int))) = true then
      (at' d71_ b73_).bind fun c74_ =>
      (at' d72_ b73_).bind fun c75_ =>
      (plaws_eqCell k c74_ c75_).bind fun f76_ =>
      if (!f76_) = true then
        some (.ret false)
      else
        plaws_eqCellS_L1 k d71_ d72_ m (wr.i64 (b73_ + 1))
    else
      some (.done ())
/-- laws.eqCellS -/
def plaws_eqCellS (k : Nat) (d71_ : List GCell) (d72_ : List GCell) : Option Bool :=
  if ((d71_.length : Int) != (d72_.length : Int)) = true then
    some false
  else
    (plaws_eqCellS_L1 k d71_ d72_ k 0).bind fun out1 => match out1 with
    | .ret r => some r
    | .done () =>
      some true
theorem claws_eqCellS {k : Nat} {d71_ : List GCell} {d72_ : List GCell} {r : Bool} (h : plaws_eqCellS k d71_ d72_ = some r) : FnC Try.prog 53 [.sl (List.map GCell.c d71_), .sl (List.map GCell.c d72_)] (.bool r) [] := by
  refine FnC.of Try.func53 (rfl : Try.f53.body = some _) (Nat.le_of_ble_eq_true (by kernel_rfl)) ?_
  intro w0 X0
  unfold plaws_eqCellS at h
  refine Wc.seq ?_
  refine Wc.region [] [0, 1] [] [] ⟨[(0, (.v (.sl (List.map GCell.c d71_)), [])), (1, (.v (.sl (List.map GCell.c d72_)), []))], [], []⟩ _ (by kernel_rfl) .nil ?_
  refine Wc.seq ?_
  refine Wc.seq ?_
  refine Wc.region [((none, []), none), ((some (.int .i64 (d71_.length : Int)), []), none), ((none, []), none), ((some (.int .i64 (d72_.length : Int)), []), none)] [0, 1, 10] [] [] ⟨[(0, (.v (.sl (List.map GCell.c d71_)), [])), (1, (.v (.sl (List.map GCell.c d72_)), [])), (10, (.v (.bool ((d71_.length : Int) != (d72_.length : Int))), []))], [], []⟩ _ (by kernel_rfl) (.cons (len_obl GCell.c d71_) (.cons (len_obl GCell.c d72_) .nil)) ?_
  rcases oif h with ⟨h63, h⟩ | ⟨h63, h⟩
  · refine Wc.condT h63 (by kernel_rfl) ?_
    refine Wc.seq ?_
    refine Wc.region [] [4] [] [] ⟨[(4, (.v (.bool false), []))], [], []⟩ _ (by kernel_rfl) .nil ?_
    refine Wc.ret ?_
    obtain rfl := Option.some.inj h
    exact ⟨.inl rfl, by kernel_rfl⟩
  · refine Wc.condF h63 (by kernel_rfl) ?_
    refine Wc.keep [0, 1] [] [] ⟨[(0, (.v (.sl (List.map GCell.c d71_)), [])), (1, (.v (.sl (List.map GCell.c d72_)), []))], [], []⟩ (by kernel_rfl) ?_
    refine Wc.skip ?_
    refine Wc.seq ?_
    refine Wc.seq ?_
    refine Wc.region [] [0, 1, 5] [] [] ⟨[(0, (.v (.sl (List.map GCell.c d71_)), [])), (1, (.v (.sl (List.map GCell.c d72_)), [])), (5, (.v (.int .i64 0), []))], [], []⟩ _ (by kernel_rfl) .nil ?_
    obtain ⟨out1, h64, h⟩ := obind h
    refine Wc.lastJ (fun st => out1 = .done () ∧ st = ⟨[], [], []⟩) ?_ ?_
    · refine Wc.block ?_
      refine Wc.loop (fun m st => ∃ (b73_ : Int), st = ⟨[(0, (.v (.sl (List.map GCell.c d71_)), [])), (1, (.v (.sl (List.map GCell.c d72_)), [])), (5, (.v (.int .i64 b73_), []))], [], []⟩ ∧ plaws_eqCellS_L1 k d71_ d72_ m b73_ = some out1) ?_ k ⟨_, rfl, h64⟩
      rintro m st ⟨b73_, rfl, h64⟩
      cases m with
      | zero => exact (onone h64).elim
      | succ m =>
        refine Wc.seq ?_
        refine Wc.seq ?_
        refine Wc.region [((none, []), none), ((none, []), none), ((some (.int .i64 (d71_.length : Int)), []), none)] [0, 1, 5, 14] [] [] ⟨[(0, (.v (.sl (List.map GCell.c d71_)), [])), (1, (.v (.sl (List.map GCell.c d72_)), [])), (5, (.v (.int .i64 b73_), [])), (14, (.v (.bool (decide (b73_ < (d71_.length : Int)))), []))], [], []⟩ _ (by kernel_rfl) (.cons (len_obl GCell.c d71_) .nil) ?_
        rcases oif h64 with ⟨h65, h64⟩ | ⟨h65, h64⟩
        · refine Wc.condT h65 (by kernel_rfl) ?_
          refine Wc.keep [0, 1, 5] [] [] ⟨[(0, (.v (.sl (List.map GCell.c d71_)), [])), (1, (.v (.sl (List.map GCell.c d72_)), [])), (5, (.v (.int .i64 b73_), []))], [], []⟩ (by kernel_rfl) ?_
          refine Wc.skip ?_
          refine Wc.seq ?_
          refine Wc.block ?_
          refine Wc.seq ?_
          obtain ⟨c74_, h66, h64⟩ := obind h64
          obtain ⟨c75_, h67, h64⟩ := obind h64
          obtain ⟨f76_, h68, h64⟩ := obind h64
          refine Wc.draw hmix [((none, []), none), ((none, []), none), ((some (.vptr [.int .i64 c74_.gKind, .str c74_.gName, .int .i64 c74_.gNum, .int .i64 c74_.gTo, .sl (List.map cI.i64 c74_.gKids)]), []), none), ((none, []), none), ((none, []), none), ((none, []), none), ((some (.vptr [.int .i64 c75_.gKind, .str c75_.gName, .int .i64 c75_.gNum, .int .i64 c75_.gTo, .sl (List.map cI.i64 c75_.gKids)]), []), none), ((none, []), none), ((some (.bool f76_), []), none)] [0, 1, 5, 26] [] [] ⟨[(0, (.v (.sl (List.map GCell.c d71_)), [])), (1, (.v (.sl (List.map GCell.c d72_)), [])), (5, (.v (.int .i64 b73_), [])), (26, (.v (.bool (!f76_)), []))], [], []⟩ _ (by kernel_rfl) (.cons (at_obl (c := GCell.c) (GCell.c_eq c74_) GCell.c_len h66) (.cons (len_ok 5 [.int .i64 c74_.gKind, .str c74_.gName, .int .i64 c74_.gNum, .int .i64 c74_.gTo, .sl (List.map cI.i64 c74_.gKids)]) (.cons (at_obl (c := GCell.c) (GCell.c_eq c75_) GCell.c_len h67) (.cons (len_ok 5 [.int .i64 c75_.gKind, .str c75_.gName, .int .i64 c75_.gNum, .int .i64 c75_.gTo, .sl (List.map cI.i64 c75_.gKids)]) (.cons (claws_eqCell h68) .nil))))) ?_
          rcases oif h64 with ⟨h69, h64⟩ | ⟨h69, h64⟩
          · refine Wc.condT h69 (by kernel_rfl) ?_
            refine Wc.seq ?_
            refine Wc.region [] [4] [] [] ⟨[(4, (.v (.bool false), []))], [], []⟩ _ (by kernel_rfl) .nil ?_
            refine Wc.ret ?_
            obtain rfl := Option.some.inj h64
            obtain rfl := Option.some.inj h
            exact ⟨.inl rfl, by kernel_rfl⟩
          · refine Wc.condF h69 (by kernel_rfl) ?_
            refine Wc.keep [0, 1, 5] [] [] ⟨[(0, (.v (.sl (List.map GCell.c d71_)), [])), (1, (.v (.sl (List.map GCell.c d72_)), [])), (5, (.v (.int .i64 b73_), []))], [], []⟩ (by kernel_rfl) ?_
            refine Wc.skip ?_
            refine Wc.region [] [0, 1, 5] [] [] ⟨[(0, (.v (.sl (List.map GCell.c d71_)), [])), (1, (.v (.sl (List.map GCell.c d72_)), [])), (5, (.v (.int .i64 (wr.i64 (b73_ + 1))), []))], [], []⟩ _ (by kernel_rfl) .nil ?_
            exact ⟨_, Nat.lt_succ_self _, _, rfl, h64⟩
        · refine Wc.condF h65 (by kernel_rfl) ?_
          refine Wc.keep [] [] [] ⟨[], [], []⟩ (by kernel_rfl) ?_
          refine Wc.exit ?_
          obtain rfl := Option.some.inj h64
          exact ⟨rfl, rfl⟩
    · rintro st ⟨rfl, rfl⟩
      refine Wc.seq ?_
      refine Wc.region [] [4] [] [] ⟨[(4, (.v (.bool true), []))], [], []⟩ _ (by kernel_rfl) .nil ?_
      refine Wc.ret ?_
      obtain rfl := Option.some.inj h
      exact ⟨.inl rfl, by kernel_rfl⟩

/-- laws.eqHeap -/
def plaws_eqHeap (k : Nat) (e77_ : GHeap) (e78_ : GHeap) : Option Bool :=
  (plaws_eqCellS k e77_.gCells e78_.gCells).bind fun f79_ =>
  if (!f79_) = true then
    some false
  else
    (plaws_eqIntS k e77_.gTrail e78_.gTrail).bind fun f80_ =>
    if (!f80_) = true then
      some false
    else
      some true
theorem claws_eqHeap {k : Nat} {e77_ : GHeap} {e78_ : GHeap} {r : Bool} (h : plaws_eqHeap k e77_ e78_ = some r) : FnC Try.prog 32 [.agg [.sl (List.map GCell.c e77_.gCells), .sl (List.map cI.i64 e77_.gTrail)], .agg [.sl (List.map GCell.c e78_.gCells), .sl (List.map cI.i64 e78_.gTrail)]] (.bool r) [] := by
  refine FnC.of Try.func32 (rfl : Try.f32.body = some _) (Nat.le_of_ble_eq_true (by kernel_rfl)) ?_
  intro w0 X0
  unfold plaws_eqHeap at h
  refine Wc.seq ?_
  refine Wc.region [] [2, 3] [2, 3] [] ⟨[(2, (.ptr 2 0, [])), (3, (.ptr 3 0, []))], [(2, ([.sl (List.map GCell.c e77_.gCells), .sl (List.map cI.i64 e77_.gTrail)], [])), (3, ([.sl (List.map GCell.c e78_.gCells), .sl (List.map cI.i64 e78_.gTrail)], []))], []⟩ _ (by kernel_rfl) .nil ?_
  refine Wc.seq ?_
  refine Wc.seq ?_
  obtain ⟨f79_, h70, h⟩ := obind h
  refine Wc.region [((none, []), none), ((none, []), none), ((none, []), none), ((none, []), none), ((some (.bool f79_), []), none)] [2, 3, 10] [2, 3] [] ⟨[(2, (.ptr 2 0, [])), (3, (.ptr 3 0, [])), (10, (.v (.bool (!f79_)), []))], [(2, ([.sl (List.map GCell.c e77_.gCells), .sl (List.map cI.i64 e77_.gTrail)], [])), (3, ([.sl (List.map GCell.c e78_.gCells), .sl (List.map cI.i64 e78_.gTrail)], []))], []⟩ _ (by kernel_rfl) (.cons (claws_eqCellS h70) .nil) ?_
  rcases oif h with ⟨h71, h⟩ | ⟨h71, h⟩
  · refine Wc.condT h71 (by kernel_rfl) ?_
    refine Wc.seq ?_
    refine Wc.region [] [4] [] [] ⟨[(4, (.v (.bool false), []))], [], []⟩ _ (by kernel_rfl) .nil ?_
    refine Wc.ret ?_
    obtain rfl := Option.some.inj h
    exact ⟨.inl rfl, by kernel_rfl⟩
  · refine Wc.condF h71 (by kernel_rfl) ?_
    refine Wc.keep [2, 3] [2, 3] [] ⟨[(2, (.ptr 2 0, [])), (3, (.ptr 3 0, []))], [(2, ([.sl (List.map GCell.c e77_.gCells), .sl (List.map cI.i64 e77_.gTrail)], [])), (3, ([.sl (List.map GCell.c e78_.gCells), .sl (List.map cI.i64 e78_.gTrail)], []))], []⟩ (by kernel_rfl) ?_
    refine Wc.skip ?_
    refine Wc.seq ?_
    refine Wc.seq ?_
    obtain ⟨f80_, h72, h⟩ := obind h
    refine Wc.region [((none, []), none), ((none, []), none), ((none, []), none), ((none, []), none), ((some (.bool f80_), []), none)] [16] [] [] ⟨[(16, (.v (.bool (!f80_)), []))], [], []⟩ _ (by kernel_rfl) (.cons (claws_eqIntS h72) .nil) ?_
    rcases oif h with ⟨h73, h⟩ | ⟨h73, h⟩
    · refine Wc.condT h73 (by kernel_rfl) ?_
      refine Wc.seq ?_
      refine Wc.region [] [4] [] [] ⟨[(4, (.v (.bool false), []))], [], []⟩ _ (by kernel_rfl) .nil ?_
      refine Wc.ret ?_
      obtain rfl := Option.some.inj h
      exact ⟨.inl rfl, by kernel_rfl⟩
    · refine Wc.condF h73 (by kernel_rfl) ?_
      refine Wc.keep [] [] [] ⟨[], [], []⟩ (by kernel_rfl) ?_
      refine Wc.skip ?_
      refine Wc.seq ?_
      refine Wc.region [] [4] [] [] ⟨[(4, (.v (.bool true), []))], [], []⟩ _ (by kernel_rfl) .nil ?_
      refine Wc.ret ?_
      obtain rfl := Option.some.inj h
      exact ⟨.inl rfl, by kernel_rfl⟩

/-- laws.FnExactFollowCell -/
def plaws_FnExactFollowCell (k : Nat) (e81_ : GHeap) (b82_ : Int) : Option Bool :=
  (plaws_szHeap k e81_ 1048576).bind fun b83_ =>
  if (decide (b83_ < 0)) = true then
    some true
  else
    (plaws_toHeap k e81_).bind fun e84_ =>
    (pspec_FollowCell k e84_ b82_).bind fun b85_ =>
    (plaws_toHeap k e81_).bind fun e86_ =>
    (pimpl_FollowCell k e86_ b82_).bind fun b87_ =>
    if (b87_ != b85_) = true then
      some false
    else
      (plaws_toHeap k e81_).bind fun e88_ =>
      (plaws_eqHeap k e86_ e88_).bind fun f89_ =>
      if (!f89_) = true then
        some false
      else
        some true
theorem claws_FnExactFollowCell {k : Nat} {e81_ : GHeap} {b82_ : Int} {r : Bool} (h : plaws_FnExactFollowCell k e81_ b82_ = some r) : FnC Try.prog 7 [.agg [.sl (List.map GCell.c e81_.gCells), .sl (List.map cI.i64 e81_.gTrail)], .int .i64 b82_] (.bool r) [] := by
  refine FnC.of Try.func7 (rfl : Try.f7.body = some _) (Nat.le_of_ble_eq_true (by kernel_rfl)) ?_
  intro w0 X0
  unfold plaws_FnExactFollowCell at h
  refine Wc.seq ?_
  refine Wc.region [] [1, 2] [2] [] ⟨[(1, (.v (.int .i64 b82_), [])), (2, (.ptr 2 0, []))], [(2, ([.sl (List.map GCell.c e81_.gCells), .sl (List.map cI.i64 e81_.gTrail)], []))], []⟩ _ (by kernel_rfl) .nil ?_
  refine Wc.seq ?_
  refine Wc.region [] [1, 2, 5] [2] [] ⟨[(1, (.v (.int .i64 b82_), [])), (2, (.ptr 2 0, [])), (5, (.v (.int .i64 1048576), []))], [(2, ([.sl (List.map GCell.c e81_.gCells), .sl (List.map cI.i64 e81_.gTrail)], []))], []⟩ _ (by kernel_rfl) .nil ?_
  refine Wc.seq ?_
  obtain ⟨b83_, h74, h⟩ := obind h
  refine Wc.region [((none, []), none), ((none, []), none), ((some (.int .i64 b83_), []), none)] [1, 2, 5] [2] [] ⟨[(1, (.v (.int .i64 b82_), [])), (2, (.ptr 2 0, [])), (5, (.v (.int .i64 b83_), []))], [(2, ([.sl (List.map GCell.c e81_.gCells), .sl (List.map cI.i64 e81_.gTrail)], []))], []⟩ _ (by kernel_rfl) (.cons (claws_szHeap h74) .nil) ?_
  refine Wc.seq ?_
  refine Wc.seq ?_
  refine Wc.region [] [1, 2, 13] [2] [] ⟨[(1, (.v (.int .i64 b82_), [])), (2, (.ptr 2 0, [])), (13, (.v (.bool (decide (b83_ < 0))), []))], [(2, ([.sl (List.map GCell.c e81_.gCells), .sl (List.map cI.i64 e81_.gTrail)], []))], []⟩ _ (by kernel_rfl) .nil ?_
  rcases oif h with ⟨h75, h⟩ | ⟨h75, h⟩
  · refine Wc.condT h75 (by kernel_rfl) ?_
    refine Wc.seq ?_
    refine Wc.region [] [4] [] [] ⟨[(4, (.v (.bool true), []))], [], []⟩ _ (by kernel_rfl) .nil ?_
    refine Wc.ret ?_
    obtain rfl := Option.some.inj h
    exact ⟨.inl rfl, by kernel_rfl⟩
  · refine Wc.condF h75 (by kernel_rfl) ?_
    refine Wc.keep [1, 2] [2] [] ⟨[(1, (.v (.int .i64 b82_), [])), (2, (.ptr 2 0, []))], [(2, ([.sl (List.map GCell.c e81_.gCells), .sl (List.map cI.i64 e81_.gTrail)], []))], []⟩ (by kernel_rfl) ?_
    refine Wc.skip ?_
    refine Wc.seq ?_
    obtain ⟨e84_, h76, h⟩ := obind h
    obtain ⟨b85_, h77, h⟩ := obind h
    refine Wc.region [((none, []), none), ((some (.agg [.sl (List.map GCell.c e84_.gCells), .sl (List.map cI.i64 e84_.gTrail)]), []), none), ((none, []), none), ((some (.int .i64 b85_), []), none)] [1, 2, 6] [2] [] ⟨[(1, (.v (.int .i64 b82_), [])), (2, (.ptr 2 0, [])), (6, (.v (.int .i64 b85_), []))], [(2, ([.sl (List.map GCell.c e81_.gCells), .sl (List.map cI.i64 e81_.gTrail)], []))], []⟩ _ (by kernel_rfl) (.cons (claws_toHeap h76) (.cons (cspec_FollowCell h77) .nil)) ?_
    refine Wc.seq ?_
    obtain ⟨e86_, h78, h⟩ := obind h
    refine Wc.region [((none, []), none), ((some (.agg [.sl (List.map GCell.c e86_.gCells), .sl (List.map cI.i64 e86_.gTrail)]), []), none)] [1, 2, 6, 7] [2, 7] [] ⟨[(1, (.v (.int .i64 b82_), [])), (2, (.ptr 2 0, [])), (6, (.v (.int .i64 b85_), [])), (7, (.ptr 7 0, []))], [(2, ([.sl (List.map GCell.c e81_.gCells), .sl (List.map cI.i64 e81_.gTrail)], [])), (7, ([.sl (List.map GCell.c e86_.gCells), .sl (List.map cI.i64 e86_.gTrail)], []))], []⟩ _ (by kernel_rfl) (.cons (claws_toHeap h78) .nil) ?_
    refine Wc.seq ?_
    obtain ⟨b87_, h79, h⟩ := obind h
    refine Wc.region [((none, []), none), ((none, []), none), ((some (.int .i64 b87_), []), none)] [2, 6, 7, 8] [2, 7] [] ⟨[(2, (.ptr 2 0, [])), (6, (.v (.int .i64 b85_), [])), (7, (.ptr 7 0, [])), (8, (.v (.int .i64 b87_), []))], [(2, ([.sl (List.map GCell.c e81_.gCells), .sl (List.map cI.i64 e81_.gTrail)], [])), (7, ([.sl (List.map GCell.c e86_.gCells), .sl (List.map cI.i64 e86_.gTrail)], []))], []⟩ _ (by kernel_rfl) (.cons (cimpl_FollowCell h79) .nil) ?_
    refine Wc.seq ?_
    refine Wc.seq ?_
    refine Wc.region [] [2, 7, 25] [2, 7] [] ⟨[(2, (.ptr 2 0, [])), (7, (.ptr 7 0, [])), (25, (.v (.bool (b87_ != b85_)), []))], [(2, ([.sl (List.map GCell.c e81_.gCells), .sl (List.map cI.i64 e81_.gTrail)], [])), (7, ([.sl (List.map GCell.c e86_.gCells), .sl (List.map cI.i64 e86_.gTrail)], []))], []⟩ _ (by kernel_rfl) .nil ?_
    rcases oif h with ⟨h80, h⟩ | ⟨h80, h⟩
    · refine Wc.condT h80 (by kernel_rfl) ?_
      refine Wc.seq ?_
      refine Wc.region [] [4] [] [] ⟨[(4, (.v (.bool false), []))], [], []⟩ _ (by kernel_rfl) .nil ?_
      refine Wc.ret ?_
      obtain rfl := Option.some.inj h
      exact ⟨.inl rfl, by kernel_rfl⟩
    · refine Wc.condF h80 (by kernel_rfl) ?_
      refine Wc.keep [2, 7] [2, 7] [] ⟨[(2, (.ptr 2 0, [])), (7, (.ptr 7 0, []))], [(2, ([.sl (List.map GCell.c e81_.gCells), .sl (List.map cI.i64 e81_.gTrail)], [])), (7, ([.sl (List.map GCell.c e86_.gCells), .sl (List.map cI.i64 e86_.gTrail)], []))], []⟩ (by kernel_rfl) ?_
      refine Wc.skip ?_
      refine Wc.seq ?_
      refine Wc.seq ?_
      obtain ⟨e88_, h81, h⟩ := obind h
      obtain ⟨f89_, h82, h⟩ := obind h
      refine Wc.draw hmix [((none, []), none), ((none, []), none), ((some (.agg [.sl (List.map GCell.c e88_.gCells), .sl (List.map cI.i64 e88_.gTrail)]), []), none), ((some (.bool f89_), []), none)] [30] [] [] ⟨[(30, (.v (.bool (!f89_)), []))], [], []⟩ _ (by kernel_rfl) (.cons (claws_toHeap h81) (.cons (claws_eqHeap h82) .nil)) ?_
      rcases oif h with ⟨h83, h⟩ | ⟨h83, h⟩
      · refine Wc.condT h83 (by kernel_rfl) ?_
        refine Wc.seq ?_
        refine Wc.region [] [4] [] [] ⟨[(4, (.v (.bool false), []))], [], []⟩ _ (by kernel_rfl) .nil ?_
        refine Wc.ret ?_
        obtain rfl := Option.some.inj h
        exact ⟨.inl rfl, by kernel_rfl⟩
      · refine Wc.condF h83 (by kernel_rfl) ?_
        refine Wc.keep [] [] [] ⟨[], [], []⟩ (by kernel_rfl) ?_
        refine Wc.skip ?_
        refine Wc.seq ?_
        refine Wc.region [] [4] [] [] ⟨[(4, (.v (.bool true), []))], [], []⟩ _ (by kernel_rfl) .nil ?_
        refine Wc.ret ?_
        obtain rfl := Option.some.inj h
        exact ⟨.inl rfl, by kernel_rfl⟩
end Go.Proofs.Ytbpenglnebpbcaa

/- What the functions do. -/
import Derived.Test.YtjgagbajgdmocaaTy
set_option linter.unusedVariables false
set_option linter.unusedSimpArgs false
namespace Go.Proofs.Ytjgagbajgdmocaa
open Go.RowKit Go.Av
def plaws_szTermS_L1 (k : Nat) (rlaws_szTerm : GTerm → Int → Option Int) (rlaws_szTermS : (List GTerm) → Int → Option Int) (c4_ : List GTerm) : Nat → Int → Int → Option (Out Int Int)
  | 0, _, _ => none
  | m + 1, b6_, b7_ =>
    if (decide (b7_ < (c4_.length : Int))) = true then
      (at' c4_ b7_).bind fun a9_ =>
      (rlaws_szTerm a9_ b6_).bind fun b10_ =>
      if (decide (b10_ < 0)) = true then
        some (.ret (-1))
      else
        plaws_szTermS_L1 k rlaws_szTerm rlaws_szTermS c4_ m b10_ (wr.i64 (b7_ + 1))
    else
      some (.done b6_)
mutual
/-- laws.szTerm -/
def plaws_szTerm : Nat → GTerm → Int → Option Int
  | 0, _, _ => none
  | k + 1, a1_, b2_ =>
    if (decide ((wr.i64 (b2_ - (a1_.gName.size : Int))) < 0)) = true then
      some (-1)
    else
      (plaws_szTermS k a1_.gKids (wr.i64 (b2_ - (a1_.gName.size : Int)))).bind fun b3_ =>
      if (decide (b3_ < 0)) = true then
        some (-1)
      else
        some b3_
/-- laws.szTermS -/
def plaws_szTermS : Nat → (List GTerm) → Int → Option Int
  | 0, _, _ => none
  | k + 1, c4_, b5_ =>
    if (decide ((wr.i64 (b5_ - (c4_.length : Int))) < 0)) = true then
      some (-1)
    else
      (plaws_szTermS_L1 k (plaws_szTerm k) (plaws_szTermS k) c4_ k (wr.i64 (b5_ - (c4_.length : Int))) 0).bind fun out1 => match out1 with
      | .ret r => some r
      | .done b8_ =>
        some b8_
end
theorem all_plaws_szTerm : ∀ k : Nat, (∀ {a1_ : GTerm} {b2_ : Int} {r : Int}, plaws_szTerm k a1_ b2_ = some r → FnC Try.prog 33 [.agg [.int .i64 a1_.gKind, .str a1_.gName, .int .i64 a1_.gNum, .sl (List.map GTerm.c a1_.gKids)], .int .i64 b2_] (.int .i64 r) []) ∧
    (∀ {c4_ : List GTerm} {b5_ : Int} {r : Int}, plaws_szTermS k c4_ b5_ = some r → FnC Try.prog 40 [.sl (List.map GTerm.c c4_), .int .i64 b5_] (.int .i64 r) []) := by
  intro k
  induction k with
  | zero =>
    refine ⟨?_, ?_⟩
    · intro a1_ b2_ r h
      exact (onone (by rw [plaws_szTerm] at h; exact h)).elim
    · intro c4_ b5_ r h
      exact (onone (by rw [plaws_szTermS] at h; exact h)).elim
  | succ k ih =>
    obtain ⟨ih_plaws_szTerm, ih_plaws_szTermS⟩ := ih
    refine ⟨?_, ?_⟩
    · intro a1_ b2_ r h
      rw [plaws_szTerm] at h
      refine FnC.of Try.func33 (rfl : Try.f33.body = some _) (Nat.le_of_ble_eq_true (by kernel_rfl)) ?_
      intro w0 X0
      refine Wc.seq ?_
      refine Wc.region [] [1, 2] [2] [] ⟨[(1, (.v (.int .i64 b2_), [])), (2, (.ptr 2 0, []))], [(2, ([.int .i64 a1_.gKind, .str a1_.gName, .int .i64 a1_.gNum, .sl (List.map GTerm.c a1_.gKids)], []))], []⟩ _ (by kernel_rfl) .nil ?_
      refine Wc.seq ?_
      refine Wc.region [] [1, 2] [2] [] ⟨[(1, (.v (.int .i64 (wr.i64 (b2_ - (a1_.gName.size : Int)))), [])), (2, (.ptr 2 0, []))], [(2, ([.int .i64 a1_.gKind, .str a1_.gName, .int .i64 a1_.gNum, .sl (List.map GTerm.c a1_.gKids)], []))], []⟩ _ (by kernel_rfl) .nil ?_
      refine Wc.seq ?_
      refine Wc.seq ?_
      refine Wc.region [] [1, 2, 11] [2] [] ⟨[(1, (.v (.int .i64 (wr.i64 (b2_ - (a1_.gName.size : Int)))), [])), (2, (.ptr 2 0, [])), (11, (.v (.bool (decide ((wr.i64 (b2_ - (a1_.gName.size : Int))) < 0))), []))], [(2, ([.int .i64 a1_.gKind, .str a1_.gName, .int .i64 a1_.gNum, .sl (List.map GTerm.c a1_.gKids)], []))], []⟩ _ (by kernel_rfl) .nil ?_
      rcases oif h with ⟨h1, h⟩ | ⟨h1, h⟩
      · refine Wc.condT h1 (by kernel_rfl) ?_
        refine Wc.seq ?_
        refine Wc.region [] [4] [] [] ⟨[(4, (.v (.int .i64 (-1)), []))], [], []⟩ _ (by kernel_rfl) .nil ?_
        refine Wc.ret ?_
        obtain rfl := Option.some.inj h
        exact ⟨.inl rfl, by kernel_rfl⟩
      · refine Wc.condF h1 (by kernel_rfl) ?_
        refine Wc.keep [1, 2] [2] [] ⟨[(1, (.v (.int .i64 (wr.i64 (b2_ - (a1_.gName.size : Int)))), [])), (2, (.ptr 2 0, []))], [(2, ([.int .i64 a1_.gKind, .str a1_.gName, .int .i64 a1_.gNum, .sl (List.map GTerm.c a1_.gKids)], []))], []⟩ (by kernel_rfl) ?_
        refine Wc.skip ?_
        refine Wc.seq ?_
        obtain ⟨b3_, h2, h⟩ := obind h
        refine Wc.region [((none, []), none), ((none, []), none), ((none, []), none), ((some (.int .i64 b3_), []), none)] [1] [] [] ⟨[(1, (.v (.int .i64 b3_), []))], [], []⟩ _ (by kernel_rfl) (.cons (ih_plaws_szTermS h2) .nil) ?_
        refine Wc.seq ?_
        refine Wc.seq ?_
        refine Wc.region [] [1, 17] [] [] ⟨[(1, (.v (.int .i64 b3_), [])), (17, (.v (.bool (decide (b3_ < 0))), []))], [], []⟩ _ (by kernel_rfl) .nil ?_
        rcases oif h with ⟨h3, h⟩ | ⟨h3, h⟩
        · refine Wc.condT h3 (by kernel_rfl) ?_
          refine Wc.seq ?_
          refine Wc.region [] [4] [] [] ⟨[(4, (.v (.int .i64 (-1)), []))], [], []⟩ _ (by kernel_rfl) .nil ?_
          refine Wc.ret ?_
          obtain rfl := Option.some.inj h
          exact ⟨.inl rfl, by kernel_rfl⟩
        · refine Wc.condF h3 (by kernel_rfl) ?_
          refine Wc.keep [1] [] [] ⟨[(1, (.v (.int .i64 b3_), []))], [], []⟩ (by kernel_rfl) ?_
          refine Wc.skip ?_
          refine Wc.seq ?_
          refine Wc.region [] [4] [] [] ⟨[(4, (.v (.int .i64 b3_), []))], [], []⟩ _ (by kernel_rfl) .nil ?_
          refine Wc.ret ?_
          obtain rfl := Option.some.inj h
          exact ⟨.inl rfl, by kernel_rfl⟩
    · intro c4_ b5_ r h
      rw [plaws_szTermS] at h
      refine FnC.of Try.func40 (rfl : Try.f40.body = some _) (Nat.le_of_ble_eq_true (by kernel_rfl)) ?_
      intro w0 X0
      refine Wc.seq ?_
      refine Wc.region [] [0, 1] [] [] ⟨[(0, (.v (.sl (List.map GTerm.c c4_)), [])), (1, (.v (.int .i64 b5_), []))], [], []⟩ _ (by kernel_rfl) .nil ?_
      refine Wc.seq ?_
      refine Wc.region [((none, []), none), ((none, []), none), ((some (.int .i64 (c4_.length : Int)), []), none)] [0, 1] [] [] ⟨[(0, (.v (.sl (List.map GTerm.c c4_)), [])), (1, (.v (.int .i64 (wr.i64 (b5_ - (c4_.length : Int)))), []))], [], []⟩ _ (by kernel_rfl) (.cons (len_obl GTerm.c c4_) .nil) ?_
      refine Wc.seq ?_
      refine Wc.seq ?_
      refine Wc.region [] [0, 1, 11] [] [] ⟨[(0, (.v (.sl (List.map GTerm.c c4_)), [])), (1, (.v (.int .i64 (wr.i64 (b5_ - (c4_.length : Int)))), [])), (11, (.v (.bool (decide ((wr.i64 (b5_ - (c4_.length : Int))) < 0))), []))], [], []⟩ _ (by kernel_rfl) .nil ?_
      rcases oif h with ⟨h4, h⟩ | ⟨h4, h⟩
      · refine Wc.condT h4 (by kernel_rfl) ?_
        refine Wc.seq ?_
        refine Wc.region [] [4] [] [] ⟨[(4, (.v (.int .i64 (-1)), []))], [], []⟩ _ (by kernel_rfl) .nil ?_
        refine Wc.ret ?_
        obtain rfl := Option.some.inj h
        exact ⟨.inl rfl, by kernel_rfl⟩
      · refine Wc.condF h4 (by kernel_rfl) ?_
        refine Wc.keep [0, 1] [] [] ⟨[(0, (.v (.sl (List.map GTerm.c c4_)), [])), (1, (.v (.int .i64 (wr.i64 (b5_ - (c4_.length : Int)))), []))], [], []⟩ (by kernel_rfl) ?_
        refine Wc.skip ?_
        refine Wc.seq ?_
        refine Wc.seq ?_
        refine Wc.region [] [0, 1, 5] [] [] ⟨[(0, (.v (.sl (List.map GTerm.c c4_)), [])), (1, (.v (.int .i64 (wr.i64 (b5_ - (c4_.length : Int)))), [])), (5, (.v (.int .i64 0), []))], [], []⟩ _ (by kernel_rfl) .nil ?_
        obtain ⟨out1, h5, h⟩ := obind h
        refine Wc.lastJ (fun st => ∃ (b8_ : Int), out1 = .done b8_ ∧ st = ⟨[(1, (.v (.int .i64 b8_), []))], [], []⟩) ?_ ?_
        · refine Wc.block ?_
          refine Wc.loop (fun m st => ∃ (b6_ : Int) (b7_ : Int), st = ⟨[(0, (.v (.sl (List.map GTerm.c c4_)), [])), (1, (.v (.int .i64 b6_), [])), (5, (.v (.int .i64 b7_), []))], [], []⟩ ∧ plaws_szTermS_L1 k (plaws_szTerm k) (plaws_szTermS k) c4_ m b6_ b7_ = some out1) ?_ k ⟨_, _, rfl, h5⟩
          rintro m st ⟨b6_, b7_, rfl, h5⟩
          cases m with
          | zero => exact (onone h5).elim
          | succ m =>
            refine Wc.seq ?_
            refine Wc.seq ?_
            refine Wc.region [((none, []), none), ((none, []), none), ((some (.int .i64 (c4_.length : Int)), []), none)] [0, 1, 5, 15] [] [] ⟨[(0, (.v (.sl (List.map GTerm.c c4_)), [])), (1, (.v (.int .i64 b6_), [])), (5, (.v (.int .i64 b7_), [])), (15, (.v (.bool (decide (b7_ < (c4_.length : Int)))), []))], [], []⟩ _ (by kernel_rfl) (.cons (len_obl GTerm.c c4_) .nil) ?_
            rcases oif h5 with ⟨h6, h5⟩ | ⟨h6, h5⟩
            · refine Wc.condT h6 (by kernel_rfl) ?_
              refine Wc.keep [0, 1, 5] [] [] ⟨[(0, (.v (.sl (List.map GTerm.c c4_)), [])), (1, (.v (.int .i64 b6_), [])), (5, (.v (.int .i64 b7_), []))], [], []⟩ (by kernel_rfl) ?_
              refine Wc.skip ?_
              refine Wc.seq ?_
              refine Wc.block ?_
              refine Wc.seq ?_
              obtain ⟨a9_, h7, h5⟩ := obind h5
              obtain ⟨b10_, h8, h5⟩ := obind h5
              refine Wc.region [((none, []), none), ((none, []), none), ((some (.vptr [.int .i64 a9_.gKind, .str a9_.gName, .int .i64 a9_.gNum, .sl (List.map GTerm.c a9_.gKids)]), []), none), ((none, []), none), ((none, []), none), ((some (.int .i64 b10_), []), none)] [0, 1, 5] [] [] ⟨[(0, (.v (.sl (List.map GTerm.c c4_)), [])), (1, (.v (.int .i64 b10_), [])), (5, (.v (.int .i64 b7_), []))], [], []⟩ _ (by kernel_rfl) (.cons (at_obl (c := GTerm.c) (GTerm.c_eq a9_) GTerm.c_len h7) (.cons (len_ok 4 [.int .i64 a9_.gKind, .str a9_.gName, .int .i64 a9_.gNum, .sl (List.map GTerm.c a9_.gKids)]) (.cons (ih_plaws_szTerm h8) .nil))) ?_
              refine Wc.seq ?_
              refine Wc.region [] [0, 1, 5, 25] [] [] ⟨[(0, (.v (.sl (List.map GTerm.c c4_)), [])), (1, (.v (.int .i64 b10_), [])), (5, (.v (.int .i64 b7_), [])), (25, (.v (.bool (decide (b10_ < 0))), []))], [], []⟩ _ (by kernel_rfl) .nil ?_
              rcases oif h5 with ⟨h9, h5⟩ | ⟨h9, h5⟩
              · refine Wc.condT h9 (by kernel_rfl) ?_
                refine Wc.seq ?_
                refine Wc.region [] [4] [] [] ⟨[(4, (.v (.int .i64 (-1)), []))], [], []⟩ _ (by kernel_rfl) .nil ?_
                refine Wc.ret ?_
                obtain rfl := Option.some.inj h5
                obtain rfl := Option.some.inj h
                exact ⟨.inl rfl, by kernel_rfl⟩
              · refine Wc.condF h9 (by kernel_rfl) ?_
                refine Wc.keep [0, 1, 5] [] [] ⟨[(0, (.v (.sl (List.map GTerm.c c4_)), [])), (1, (.v (.int .i64 b10_), [])), (5, (.v (.int .i64 b7_), []))], [], []⟩ (by kernel_rfl) ?_
                refine Wc.skip ?_
                refine Wc.region [] [0, 1, 5] [] [] ⟨[(0, (.v (.sl (List.map GTerm.c c4_)), [])), (1, (.v (.int .i64 b10_), [])), (5, (.v (.int .i64 (wr.i64 (b7_ + 1))), []))], [], []⟩ _ (by kernel_rfl) .nil ?_
                exact ⟨_, Nat.lt_succ_self _, _, _, rfl, h5⟩
            · refine Wc.condF h6 (by kernel_rfl) ?_
              refine Wc.keep [1] [] [] ⟨[(1, (.v (.int .i64 b6_), []))], [], []⟩ (by kernel_rfl) ?_
              refine Wc.exit ?_
              obtain rfl := Option.some.inj h5
              exact ⟨_, rfl, rfl⟩
        · rintro st ⟨b8_, rfl, rfl⟩
          refine Wc.seq ?_
          refine Wc.region [] [4] [] [] ⟨[(4, (.v (.int .i64 b8_), []))], [], []⟩ _ (by kernel_rfl) .nil ?_
          refine Wc.ret ?_
          obtain rfl := Option.some.inj h
          exact ⟨.inl rfl, by kernel_rfl⟩
theorem claws_szTerm {k : Nat} {a1_ : GTerm} {b2_ : Int} {r : Int} (h : plaws_szTerm k a1_ b2_ = some r) : FnC Try.prog 33 [.agg [.int .i64 a1_.gKind, .str a1_.gName, .int .i64 a1_.gNum, .sl (List.map GTerm.c a1_.gKids)], .int .i64 b2_] (.int .i64 r) [] := (all_plaws_szTerm k).1 h
theorem claws_szTermS {k : Nat} {c4_ : List GTerm} {b5_ : Int} {r : Int} (h : plaws_szTermS k c4_ b5_ = some r) : FnC Try.prog 40 [.sl (List.map GTerm.c c4_), .int .i64 b5_] (.int .i64 r) [] := (all_plaws_szTerm k).2 h

/-- laws.szClause -/
def plaws_szClause (k : Nat) (d11_ : GClause) (b12_ : Int) : Option Int :=
  (plaws_szTerm k d11_.gHead b12_).bind fun b13_ =>
  if (decide (b13_ < 0)) = true then
    some (-1)
  else
    (plaws_szTerm k d11_.gBody b13_).bind fun b14_ =>
    if (decide (b14_ < 0)) = true then
      some (-1)
    else
      if (decide ((wr.i64 (b14_ - (d11_.gFile.size : Int))) < 0)) = true then
        some (-1)
      else
        some (wr.i64 (b14_ - (d11_.gFile.size : Int)))
theorem claws_szClause {k : Nat} {d11_ : GClause} {b12_ : Int} {r : Int} (h : plaws_szClause k d11_ b12_ = some r) : FnC Try.prog 63 [.agg [.int .i64 d11_.gHead.gKind, .str d11_.gHead.gName, .int .i64 d11_.gHead.gNum, .sl (List.map GTerm.c d11_.gHead.gKids), .int .i64 d11_.gBody.gKind, .str d11_.gBody.gName, .int .i64 d11_.gBody.gNum, .sl (List.map GTerm.c d11_.gBody.gKids), .str d11_.gFile], .int .i64 b12_] (.int .i64 r) [] := by
  refine FnC.of Try.func63 (rfl : Try.f63.body = some _) (Nat.le_of_ble_eq_true (by kernel_rfl)) ?_
  intro w0 X0
  unfold plaws_szClause at h
  refine Wc.seq ?_
  refine Wc.region [] [1, 2] [2] [] ⟨[(1, (.v (.int .i64 b12_), [])), (2, (.ptr 2 0, []))], [(2, ([.int .i64 d11_.gHead.gKind, .str d11_.gHead.gName, .int .i64 d11_.gHead.gNum, .sl (List.map GTerm.c d11_.gHead.gKids), .int .i64 d11_.gBody.gKind, .str d11_.gBody.gName, .int .i64 d11_.gBody.gNum, .sl (List.map GTerm.c d11_.gBody.gKids), .str d11_.gFile], []))], []⟩ _ (by kernel_rfl) .nil ?_
  refine Wc.seq ?_
  obtain ⟨b13_, h10, h⟩ := obind h
  refine Wc.region [((none, []), none), ((none, []), none), ((none, []), none), ((some (.int .i64 b13_), []), none)] [1, 2] [2] [] ⟨[(1, (.v (.int .i64 b13_), [])), (2, (.ptr 2 0, []))], [(2, ([.int .i64 d11_.gHead.gKind, .str d11_.gHead.gName, .int .i64 d11_.gHead.gNum, .sl (List.map GTerm.c d11_.gHead.gKids), .int .i64 d11_.gBody.gKind, .str d11_.gBody.gName, .int .i64 d11_.gBody.gNum, .sl (List.map GTerm.c d11_.gBody.gKids), .str d11_.gFile], []))], []⟩ _ (by kernel_rfl) (.cons (claws_szTerm h10) .nil) ?_
  refine Wc.seq ?_
  refine Wc.seq ?_
  refine Wc.region [] [1, 2, 10] [2] [] ⟨[(1, (.v (.int .i64 b13_), [])), (2, (.ptr 2 0, [])), (10, (.v (.bool (decide (b13_ < 0))), []))], [(2, ([.int .i64 d11_.gHead.gKind, .str d11_.gHead.gName, .int .i64 d11_.gHead.gNum, .sl (List.map GTerm.c d11_.gHead.gKids), .int .i64 d11_.gBody.gKind, .str d11_.gBody.gName, .int .i64 d11_.gBody.gNum, .sl (List.map GTerm.c d11_.gBody.gKids), .str d11_.gFile], []))], []⟩ _ (by kernel_rfl) .nil ?_
  rcases oif h with ⟨h11, h⟩ | ⟨h11, h⟩
  · refine Wc.condT h11 (by kernel_rfl) ?_
    refine Wc.seq ?_
    refine Wc.region [] [4] [] [] ⟨[(4, (.v (.int .i64 (-1)), []))], [], []⟩ _ (by kernel_rfl) .nil ?_
    refine Wc.ret ?_
    obtain rfl := Option.some.inj h
    exact ⟨.inl rfl, by kernel_rfl⟩
  · refine Wc.condF h11 (by kernel_rfl) ?_
    refine Wc.keep [1, 2] [2] [] ⟨[(1, (.v (.int .i64 b13_), [])), (2, (.ptr 2 0, []))], [(2, ([.int .i64 d11_.gHead.gKind, .str d11_.gHead.gName, .int .i64 d11_.gHead.gNum, .sl (List.map GTerm.c d11_.gHead.gKids), .int .i64 d11_.gBody.gKind, .str d11_.gBody.gName, .int .i64 d11_.gBody.gNum, .sl (List.map GTerm.c d11_.gBody.gKids), .str d11_.gFile], []))], []⟩ (by kernel_rfl) ?_
    refine Wc.skip ?_
    refine Wc.seq ?_
    obtain ⟨b14_, h12, h⟩ := obind h
    refine Wc.region [((none, []), none), ((none, []), none), ((none, []), none), ((some (.int .i64 b14_), []), none)] [1, 2] [2] [] ⟨[(1, (.v (.int .i64 b14_), [])), (2, (.ptr 2 0, []))], [(2, ([.int .i64 d11_.gHead.gKind, .str d11_.gHead.gName, .int .i64 d11_.gHead.gNum, .sl (List.map GTerm.c d11_.gHead.gKids), .int .i64 d11_.gBody.gKind, .str d11_.gBody.gName, .int .i64 d11_.gBody.gNum, .sl (List.map GTerm.c d11_.gBody.gKids), .str d11_.gFile], []))], []⟩ _ (by kernel_rfl) (.cons (claws_szTerm h12) .nil) ?_
    refine Wc.seq ?_
    refine Wc.seq ?_
    refine Wc.region [] [1, 2, 16] [2] [] ⟨[(1, (.v (.int .i64 b14_), [])), (2, (.ptr 2 0, [])), (16, (.v (.bool (decide (b14_ < 0))), []))], [(2, ([.int .i64 d11_.gHead.gKind, .str d11_.gHead.gName, .int .i64 d11_.gHead.gNum, .sl (List.map GTerm.c d11_.gHead.gKids), .int .i64 d11_.gBody.gKind, .str d11_.gBody.gName, .int .i64 d11_.gBody.gNum, .sl (List.map GTerm.c d11_.gBody.gKids), .str d11_.gFile], []))], []⟩ _ (by kernel_rfl) .nil ?_
    rcases oif h with ⟨h13, h⟩ | ⟨h13, h⟩
    · refine Wc.condT h13 (by kernel_rfl) ?_
      refine Wc.seq ?_
      refine Wc.region [] [4] [] [] ⟨[(4, (.v (.int .i64 (-1)), []))], [], []⟩ _ (by kernel_rfl) .nil ?_
      refine Wc.ret ?_
      obtain rfl := Option.some.inj h
      exact ⟨.inl rfl, by kernel_rfl⟩
    · refine Wc.condF h13 (by kernel_rfl) ?_
      refine Wc.keep [1, 2] [2] [] ⟨[(1, (.v (.int .i64 b14_), [])), (2, (.ptr 2 0, []))], [(2, ([.int .i64 d11_.gHead.gKind, .str d11_.gHead.gName, .int .i64 d11_.gHead.gNum, .sl (List.map GTerm.c d11_.gHead.gKids), .int .i64 d11_.gBody.gKind, .str d11_.gBody.gName, .int .i64 d11_.gBody.gNum, .sl (List.map GTerm.c d11_.gBody.gKids), .str d11_.gFile], []))], []⟩ (by kernel_rfl) ?_
      refine Wc.skip ?_
      refine Wc.seq ?_
      refine Wc.region [] [1] [] [] ⟨[(1, (.v (.int .i64 (wr.i64 (b14_ - (d11_.gFile.size : Int)))), []))], [], []⟩ _ (by kernel_rfl) .nil ?_
      refine Wc.seq ?_
      refine Wc.seq ?_
      refine Wc.region [] [1, 23] [] [] ⟨[(1, (.v (.int .i64 (wr.i64 (b14_ - (d11_.gFile.size : Int)))), [])), (23, (.v (.bool (decide ((wr.i64 (b14_ - (d11_.gFile.size : Int))) < 0))), []))], [], []⟩ _ (by kernel_rfl) .nil ?_
      rcases oif h with ⟨h14, h⟩ | ⟨h14, h⟩
      · refine Wc.condT h14 (by kernel_rfl) ?_
        refine Wc.seq ?_
        refine Wc.region [] [4] [] [] ⟨[(4, (.v (.int .i64 (-1)), []))], [], []⟩ _ (by kernel_rfl) .nil ?_
        refine Wc.ret ?_
        obtain rfl := Option.some.inj h
        exact ⟨.inl rfl, by kernel_rfl⟩
      · refine Wc.condF h14 (by kernel_rfl) ?_
        refine Wc.keep [1] [] [] ⟨[(1, (.v (.int .i64 (wr.i64 (b14_ - (d11_.gFile.size : Int)))), []))], [], []⟩ (by kernel_rfl) ?_
        refine Wc.skip ?_
        refine Wc.seq ?_
        refine Wc.region [] [4] [] [] ⟨[(4, (.v (.int .i64 (wr.i64 (b14_ - (d11_.gFile.size : Int)))), []))], [], []⟩ _ (by kernel_rfl) .nil ?_
        refine Wc.ret ?_
        obtain rfl := Option.some.inj h
        exact ⟨.inl rfl, by kernel_rfl⟩

/-- laws.szIns -/
def plaws_szIns (k : Nat) (e15_ : GIns) (b16_ : Int) : Option Int :=
  if (decide ((wr.i64 (b16_ - (e15_.gName.size : Int))) < 0)) = true then
    some (-1)
  else
    some (wr.i64 (b16_ - (e15_.gName.size : Int)))
theorem claws_szIns {k : Nat} {e15_ : GIns} {b16_ : Int} {r : Int} (h : plaws_szIns k e15_ b16_ = some r) : FnC Try.prog 106 [.agg [.int .i64 e15_.gOp, .str e15_.gName, .int .i64 e15_.gNum, .int .i64 e15_.gMany], .int .i64 b16_] (.int .i64 r) [] := by
  refine FnC.of Try.func106 (rfl : Try.f106.body = some _) (Nat.le_of_ble_eq_true (by kernel_rfl)) ?_
  intro w0 X0
  unfold plaws_szIns at h
  refine Wc.seq ?_
  refine Wc.region [] [1, 2] [2] [] ⟨[(1, (.v (.int .i64 b16_), [])), (2, (.ptr 2 0, []))], [(2, ([.int .i64 e15_.gOp, .str e15_.gName, .int .i64 e15_.gNum, .int .i64 e15_.gMany], []))], []⟩ _ (by kernel_rfl) .nil ?_
  refine Wc.seq ?_
  refine Wc.region [] [1] [] [] ⟨[(1, (.v (.int .i64 (wr.i64 (b16_ - (e15_.gName.size : Int)))), []))], [], []⟩ _ (by kernel_rfl) .nil ?_
  refine Wc.seq ?_
  refine Wc.seq ?_
  refine Wc.region [] [1, 11] [] [] ⟨[(1, (.v (.int .i64 (wr.i64 (b16_ - (e15_.gName.size : Int)))), [])), (11, (.v (.bool (decide ((wr.i64 (b16_ - (e15_.gName.size : Int))) < 0))), []))], [], []⟩ _ (by kernel_rfl) .nil ?_
  rcases oif h with ⟨h15, h⟩ | ⟨h15, h⟩
  · refine Wc.condT h15 (by kernel_rfl) ?_
    refine Wc.seq ?_
    refine Wc.region [] [4] [] [] ⟨[(4, (.v (.int .i64 (-1)), []))], [], []⟩ _ (by kernel_rfl) .nil ?_
    refine Wc.ret ?_
    obtain rfl := Option.some.inj h
    exact ⟨.inl rfl, by kernel_rfl⟩
  · refine Wc.condF h15 (by kernel_rfl) ?_
    refine Wc.keep [1] [] [] ⟨[(1, (.v (.int .i64 (wr.i64 (b16_ - (e15_.gName.size : Int)))), []))], [], []⟩ (by kernel_rfl) ?_
    refine Wc.skip ?_
    refine Wc.seq ?_
    refine Wc.region [] [4] [] [] ⟨[(4, (.v (.int .i64 (wr.i64 (b16_ - (e15_.gName.size : Int)))), []))], [], []⟩ _ (by kernel_rfl) .nil ?_
    refine Wc.ret ?_
    obtain rfl := Option.some.inj h
    exact ⟨.inl rfl, by kernel_rfl⟩

def plaws_szInsS_L1 (k : Nat) (f17_ : List GIns) : Nat → Int → Int → Option (Out Int Int)
  | 0, _, _ => none
  | m + 1, b19_, b20_ =>
    if (decide (b20_ < (f17_.length : Int))) = true then
      (at' f17_ b20_).bind fun e22_ =>
      (plaws_szIns k e22_ b19_).bind fun b23_ =>
      if (decide (b23_ < 0)) = true then
        some (.ret (-1))
      else
        plaws_szInsS_L1 k f17_ m b23_ (wr.i64 (b20_ + 1))
    else
      some (.done b19_)
/-- laws.szInsS -/
def plaws_szInsS (k : Nat) (f17_ : List GIns) (b18_ : Int) : Option Int :=
  if (decide ((wr.i64 (b18_ - (f17_.length : Int))) < 0)) = true then
    some (-1)
  else
    (plaws_szInsS_L1 k f17_ k (wr.i64 (b18_ - (f17_.length : Int))) 0).bind fun out1 => match out1 with
    | .ret r => some r
    | .done b21_ =>
      some b21_
theorem claws_szInsS {k : Nat} {f17_ : List GIns} {b18_ : Int} {r : Int} (h : plaws_szInsS k f17_ b18_ = some r) : FnC Try.prog 91 [.sl (List.map GIns.c f17_), .int .i64 b18_] (.int .i64 r) [] := by
  refine FnC.of Try.func91 (rfl : Try.f91.body = some _) (Nat.le_of_ble_eq_true (by kernel_rfl)) ?_
  intro w0 X0
  unfold plaws_szInsS at h
  refine Wc.seq ?_
  refine Wc.region [] [0, 1] [] [] ⟨[(0, (.v (.sl (List.map GIns.c f17_)), [])), (1, (.v (.int .i64 b18_), []))], [], []⟩ _ (by kernel_rfl) .nil ?_
  refine Wc.seq ?_
  refine Wc.region [((none, []), none), ((none, []), none), ((some (.int .i64 (f17_.length : Int)), []), none)] [0, 1] [] [] ⟨[(0, (.v (.sl (List.map GIns.c f17_)), [])), (1, (.v (.int .i64 (wr.i64 (b18_ - (f17_.length : Int)))), []))], [], []⟩ _ (by kernel_rfl) (.cons (len_obl GIns.c f17_) .nil) ?_
  refine Wc.seq ?_
  refine Wc.seq ?_
  refine Wc.region [] [0, 1, 11] [] [] ⟨[(0, (.v (.sl (List.map GIns.c f17_)), [])), (1, (.v (.int .i64 (wr.i64 (b18_ - (f17_.length : Int)))), [])), (11, (.v (.bool (decide ((wr.i64 (b18_ - (f17_.length : Int))) < 0))), []))], [], []⟩ _ (by kernel_rfl) .nil ?_
  rcases oif h with ⟨h16, h⟩ | ⟨h16, h⟩
  · refine Wc.condT h16 (by kernel_rfl) ?_
    refine Wc.seq ?_
    refine Wc.region [] [4] [] [] ⟨[(4, (.v (.int .i64 (-1)), []))], [], []⟩ _ (by kernel_rfl) .nil ?_
    refine Wc.ret ?_
    obtain rfl := Option.some.inj h
    exact ⟨.inl rfl, by kernel_rfl⟩
  · refine Wc.condF h16 (by kernel_rfl) ?_
    refine Wc.keep [0, 1] [] [] ⟨[(0, (.v (.sl (List.map GIns.c f17_)), [])), (1, (.v (.int .i64 (wr.i64 (b18_ - (f17_.length : Int)))), []))], [], []⟩ (by kernel_rfl) ?_
    refine Wc.skip ?_
    refine Wc.seq ?_
    refine Wc.seq ?_
    refine Wc.region [] [0, 1, 5] [] [] ⟨[(0, (.v (.sl (List.map GIns.c f17_)), [])), (1, (.v (.int .i64 (wr.i64 (b18_ - (f17_.length : Int)))), [])), (5, (.v (.int .i64 0), []))], [], []⟩ _ (by kernel_rfl) .nil ?_
    obtain ⟨out1, h17, h⟩ := obind h
    refine Wc.lastJ (fun st => ∃ (b21_ : Int), out1 = .done b21_ ∧ st = ⟨[(1, (.v (.int .i64 b21_), []))], [], []⟩) ?_ ?_
    · refine Wc.block ?_
      refine Wc.loop (fun m st => ∃ (b19_ : Int) (b20_ : Int), st = ⟨[(0, (.v (.sl (List.map GIns.c f17_)), [])), (1, (.v (.int .i64 b19_), [])), (5, (.v (.int .i64 b20_), []))], [], []⟩ ∧ plaws_szInsS_L1 k f17_ m b19_ b20_ = some out1) ?_ k ⟨_, _, rfl, h17⟩
      rintro m st ⟨b19_, b20_, rfl, h17⟩
      cases m with
      | zero => exact (onone h17).elim
      | succ m =>
        refine Wc.seq ?_
        refine Wc.seq ?_
        refine Wc.region [((none, []), none), ((none, []), none), ((some (.int .i64 (f17_.length : Int)), []), none)] [0, 1, 5, 15] [] [] ⟨[(0, (.v (.sl (List.map GIns.c f17_)), [])), (1, (.v (.int .i64 b19_), [])), (5, (.v (.int .i64 b20_), [])), (15, (.v (.bool (decide (b20_ < (f17_.length : Int)))), []))], [], []⟩ _ (by kernel_rfl) (.cons (len_obl GIns.c f17_) .nil) ?_
        rcases oif h17 with ⟨h18, h17⟩ | ⟨h18, h17⟩
        · refine Wc.condT h18 (by kernel_rfl) ?_
          refine Wc.keep [0, 1, 5] [] [] ⟨[(0, (.v (.sl (List.map GIns.c f17_)), [])), (1, (.v (.int .i64 b19_), [])), (5, (.v (.int .i64 b20_), []))], [], []⟩ (by kernel_rfl) ?_
          refine Wc.skip ?_
          refine Wc.seq ?_
          refine Wc.block ?_
          refine Wc.seq ?_
          obtain ⟨e22_, h19, h17⟩ := obind h17
          obtain ⟨b23_, h20, h17⟩ := obind h17
          refine Wc.region [((none, []), none), ((none, []), none), ((some (.vptr [.int .i64 e22_.gOp, .str e22_.gName, .int .i64 e22_.gNum, .int .i64 e22_.gMany]), []), none), ((none, []), none), ((none, []), none), ((some (.int .i64 b23_), []), none)] [0, 1, 5] [] [] ⟨[(0, (.v (.sl (List.map GIns.c f17_)), [])), (1, (.v (.int .i64 b23_), [])), (5, (.v (.int .i64 b20_), []))], [], []⟩ _ (by kernel_rfl) (.cons (at_obl (c := GIns.c) (GIns.c_eq e22_) GIns.c_len h19) (.cons (len_ok 4 [.int .i64 e22_.gOp, .str e22_.gName, .int .i64 e22_.gNum, .int .i64 e22_.gMany]) (.cons (claws_szIns h20) .nil))) ?_
          refine Wc.seq ?_
          refine Wc.region [] [0, 1, 5, 25] [] [] ⟨[(0, (.v (.sl (List.map GIns.c f17_)), [])), (1, (.v (.int .i64 b23_), [])), (5, (.v (.int .i64 b20_), [])), (25, (.v (.bool (decide (b23_ < 0))), []))], [], []⟩ _ (by kernel_rfl) .nil ?_
          rcases oif h17 with ⟨h21, h17⟩ | ⟨h21, h17⟩
          · refine Wc.condT h21 (by kernel_rfl) ?_
            refine Wc.seq ?_
            refine Wc.region [] [4] [] [] ⟨[(4, (.v (.int .i64 (-1)), []))], [], []⟩ _ (by kernel_rfl) .nil ?_
            refine Wc.ret ?_
            obtain rfl := Option.some.inj h17
            obtain rfl := Option.some.inj h
            exact ⟨.inl rfl, by kernel_rfl⟩
          · refine Wc.condF h21 (by kernel_rfl) ?_
            refine Wc.keep [0, 1, 5] [] [] ⟨[(0, (.v (.sl (List.map GIns.c f17_)), [])), (1, (.v (.int .i64 b23_), [])), (5, (.v (.int .i64 b20_), []))], [], []⟩ (by kernel_rfl) ?_
            refine Wc.skip ?_
            refine Wc.region [] [0, 1, 5] [] [] ⟨[(0, (.v (.sl (List.map GIns.c f17_)), [])), (1, (.v (.int .i64 b23_), [])), (5, (.v (.int .i64 (wr.i64 (b20_ + 1))), []))], [], []⟩ _ (by kernel_rfl) .nil ?_
            exact ⟨_, Nat.lt_succ_self _, _, _, rfl, h17⟩
        · refine Wc.condF h18 (by kernel_rfl) ?_
          refine Wc.keep [1] [] [] ⟨[(1, (.v (.int .i64 b19_), []))], [], []⟩ (by kernel_rfl) ?_
          refine Wc.exit ?_
          obtain rfl := Option.some.inj h17
          exact ⟨_, rfl, rfl⟩
    · rintro st ⟨b21_, rfl, rfl⟩
      refine Wc.seq ?_
      refine Wc.region [] [4] [] [] ⟨[(4, (.v (.int .i64 b21_), []))], [], []⟩ _ (by kernel_rfl) .nil ?_
      refine Wc.ret ?_
      obtain rfl := Option.some.inj h
      exact ⟨.inl rfl, by kernel_rfl⟩

/-- laws.szCode -/
def plaws_szCode (k : Nat) (g24_ : GCode) (b25_ : Int) : Option Int :=
  (plaws_szInsS k g24_.gHead b25_).bind fun b26_ =>
  if (decide (b26_ < 0)) = true then
    some (-1)
  else
    (plaws_szInsS k g24_.gBody b26_).bind fun b27_ =>
    if (decide (b27_ < 0)) = true then
      some (-1)
    else
      some b27_
theorem claws_szCode {k : Nat} {g24_ : GCode} {b25_ : Int} {r : Int} (h : plaws_szCode k g24_ b25_ = some r) : FnC Try.prog 64 [.agg [.sl (List.map GIns.c g24_.gHead), .sl (List.map GIns.c g24_.gBody), .int .i64 g24_.gVars], .int .i64 b25_] (.int .i64 r) [] := by
  refine FnC.of Try.func64 (rfl : Try.f64.body = some _) (Nat.le_of_ble_eq_true (by kernel_rfl)) ?_
  intro w0 X0
  unfold plaws_szCode at h
  refine Wc.seq ?_
  refine Wc.region [] [1, 2] [2] [] ⟨[(1, (.v (.int .i64 b25_), [])), (2, (.ptr 2 0, []))], [(2, ([.sl (List.map GIns.c g24_.gHead), .sl (List.map GIns.c g24_.gBody), .int .i64 g24_.gVars], []))], []⟩ _ (by kernel_rfl) .nil ?_
  refine Wc.seq ?_
  obtain ⟨b26_, h22, h⟩ := obind h
  refine Wc.region [((none, []), none), ((none, []), none), ((none, []), none), ((some (.int .i64 b26_), []), none)] [1, 2] [2] [] ⟨[(1, (.v (.int .i64 b26_), [])), (2, (.ptr 2 0, []))], [(2, ([.sl (List.map GIns.c g24_.gHead), .sl (List.map GIns.c g24_.gBody), .int .i64 g24_.gVars], []))], []⟩ _ (by kernel_rfl) (.cons (claws_szInsS h22) .nil) ?_
  refine Wc.seq ?_
  refine Wc.seq ?_
  refine Wc.region [] [1, 2, 10] [2] [] ⟨[(1, (.v (.int .i64 b26_), [])), (2, (.ptr 2 0, [])), (10, (.v (.bool (decide (b26_ < 0))), []))], [(2, ([.sl (List.map GIns.c g24_.gHead), .sl (List.map GIns.c g24_.gBody), .int .i64 g24_.gVars], []))], []⟩ _ (by kernel_rfl) .nil ?_
  rcases oif h with ⟨h23, h⟩ | ⟨h23, h⟩
  · refine Wc.condT h23 (by kernel_rfl) ?_
    refine Wc.seq ?_
    refine Wc.region [] [4] [] [] ⟨[(4, (.v (.int .i64 (-1)), []))], [], []⟩ _ (by kernel_rfl) .nil ?_
    refine Wc.ret ?_
    obtain rfl := Option.some.inj h
    exact ⟨.inl rfl, by kernel_rfl⟩
  · refine Wc.condF h23 (by kernel_rfl) ?_
    refine Wc.keep [1, 2] [2] [] ⟨[(1, (.v (.int .i64 b26_), [])), (2, (.ptr 2 0, []))], [(2, ([.sl (List.map GIns.c g24_.gHead), .sl (List.map GIns.c g24_.gBody), .int .i64 g24_.gVars], []))], []⟩ (by kernel_rfl) ?_
    refine Wc.skip ?_
    refine Wc.seq ?_
    obtain ⟨b27_, h24, h⟩ := obind h
    refine Wc.region [((none, []), none), ((none, []), none), ((none, []), none), ((some (.int .i64 b27_), []), none)] [1] [] [] ⟨[(1, (.v (.int .i64 b27_), []))], [], []⟩ _ (by kernel_rfl) (.cons (claws_szInsS h24) .nil) ?_
    refine Wc.seq ?_
    refine Wc.seq ?_
    refine Wc.region [] [1, 16] [] [] ⟨[(1, (.v (.int .i64 b27_), [])), (16, (.v (.bool (decide (b27_ < 0))), []))], [], []⟩ _ (by kernel_rfl) .nil ?_
    rcases oif h with ⟨h25, h⟩ | ⟨h25, h⟩
    · refine Wc.condT h25 (by kernel_rfl) ?_
      refine Wc.seq ?_
      refine Wc.region [] [4] [] [] ⟨[(4, (.v (.int .i64 (-1)), []))], [], []⟩ _ (by kernel_rfl) .nil ?_
      refine Wc.ret ?_
      obtain rfl := Option.some.inj h
      exact ⟨.inl rfl, by kernel_rfl⟩
    · refine Wc.condF h25 (by kernel_rfl) ?_
      refine Wc.keep [1] [] [] ⟨[(1, (.v (.int .i64 b27_), []))], [], []⟩ (by kernel_rfl) ?_
      refine Wc.skip ?_
      refine Wc.seq ?_
      refine Wc.region [] [4] [] [] ⟨[(4, (.v (.int .i64 b27_), []))], [], []⟩ _ (by kernel_rfl) .nil ?_
      refine Wc.ret ?_
      obtain rfl := Option.some.inj h
      exact ⟨.inl rfl, by kernel_rfl⟩

/-- laws.szKept -/
def plaws_szKept (k : Nat) (i28_ : GKept) (b29_ : Int) : Option Int :=
  (plaws_szClause k i28_.gClause b29_).bind fun b30_ =>
  if (decide (b30_ < 0)) = true then
    some (-1)
  else
    (plaws_szCode k i28_.gCode b30_).bind fun b31_ =>
    if (decide (b31_ < 0)) = true then
      some (-1)
    else
      some b31_
theorem claws_szKept {k : Nat} {i28_ : GKept} {b29_ : Int} {r : Int} (h : plaws_szKept k i28_ b29_ = some r) : FnC Try.prog 23 [.agg [.int .i64 i28_.gClause.gHead.gKind, .str i28_.gClause.gHead.gName, .int .i64 i28_.gClause.gHead.gNum, .sl (List.map GTerm.c i28_.gClause.gHead.gKids), .int .i64 i28_.gClause.gBody.gKind, .str i28_.gClause.gBody.gName, .int .i64 i28_.gClause.gBody.gNum, .sl (List.map GTerm.c i28_.gClause.gBody.gKids), .str i28_.gClause.gFile, .sl (List.map GIns.c i28_.gCode.gHead), .sl (List.map GIns.c i28_.gCode.gBody), .int .i64 i28_.gCode.gVars, .int .i64 i28_.gBorn, .int .i64 i28_.gDied], .int .i64 b29_] (.int .i64 r) [] := by
  refine FnC.of Try.func23 (rfl : Try.f23.body = some _) (Nat.le_of_ble_eq_true (by kernel_rfl)) ?_
  intro w0 X0
  unfold plaws_szKept at h
  refine Wc.seq ?_
  refine Wc.region [] [1, 2] [2] [] ⟨[(1, (.v (.int .i64 b29_), [])), (2, (.ptr 2 0, []))], [(2, ([.int .i64 i28_.gClause.gHead.gKind, .str i28_.gClause.gHead.gName, .int .i64 i28_.gClause.gHead.gNum, .sl (List.map GTerm.c i28_.gClause.gHead.gKids), .int .i64 i28_.gClause.gBody.gKind, .str i28_.gClause.gBody.gName, .int .i64 i28_.gClause.gBody.gNum, .sl (List.map GTerm.c i28_.gClause.gBody.gKids), .str i28_.gClause.gFile, .sl (List.map GIns.c i28_.gCode.gHead), .sl (List.map GIns.c i28_.gCode.gBody), .int .i64 i28_.gCode.gVars, .int .i64 i28_.gBorn, .int .i64 i28_.gDied], []))], []⟩ _ (by kernel_rfl) .nil ?_
  refine Wc.seq ?_
  obtain ⟨b30_, h26, h⟩ := obind h
  refine Wc.region [((none, []), none), ((none, []), none), ((none, []), none), ((some (.int .i64 b30_), []), none)] [1, 2] [2] [] ⟨[(1, (.v (.int .i64 b30_), [])), (2, (.ptr 2 0, []))], [(2, ([.int .i64 i28_.gClause.gHead.gKind, .str i28_.gClause.gHead.gName, .int .i64 i28_.gClause.gHead.gNum, .sl (List.map GTerm.c i28_.gClause.gHead.gKids), .int .i64 i28_.gClause.gBody.gKind, .str i28_.gClause.gBody.gName, .int .i64 i28_.gClause.gBody.gNum, .sl (List.map GTerm.c i28_.gClause.gBody.gKids), .str i28_.gClause.gFile, .sl (List.map GIns.c i28_.gCode.gHead), .sl (List.map GIns.c i28_.gCode.gBody), .int .i64 i28_.gCode.gVars, .int .i64 i28_.gBorn, .int .i64 i28_.gDied], []))], []⟩ _ (by kernel_rfl) (.cons (claws_szClause h26) .nil) ?_
  refine Wc.seq ?_
  refine Wc.seq ?_
  refine Wc.region [] [1, 2, 10] [2] [] ⟨[(1, (.v (.int .i64 b30_), [])), (2, (.ptr 2 0, [])), (10, (.v (.bool (decide (b30_ < 0))), []))], [(2, ([.int .i64 i28_.gClause.gHead.gKind, .str i28_.gClause.gHead.gName, .int .i64 i28_.gClause.gHead.gNum, .sl (List.map GTerm.c i28_.gClause.gHead.gKids), .int .i64 i28_.gClause.gBody.gKind, .str i28_.gClause.gBody.gName, .int .i64 i28_.gClause.gBody.gNum, .sl (List.map GTerm.c i28_.gClause.gBody.gKids), .str i28_.gClause.gFile, .sl (List.map GIns.c i28_.gCode.gHead), .sl (List.map GIns.c i28_.gCode.gBody), .int .i64 i28_.gCode.gVars, .int .i64 i28_.gBorn, .int .i64 i28_.gDied], []))], []⟩ _ (by kernel_rfl) .nil ?_
  rcases oif h with ⟨h27, h⟩ | ⟨h27, h⟩
  · refine Wc.condT h27 (by kernel_rfl) ?_
    refine Wc.seq ?_
    refine Wc.region [] [4] [] [] ⟨[(4, (.v (.int .i64 (-1)), []))], [], []⟩ _ (by kernel_rfl) .nil ?_
    refine Wc.ret ?_
    obtain rfl := Option.some.inj h
    exact ⟨.inl rfl, by kernel_rfl⟩
  · refine Wc.condF h27 (by kernel_rfl) ?_
    refine Wc.keep [1, 2] [2] [] ⟨[(1, (.v (.int .i64 b30_), [])), (2, (.ptr 2 0, []))], [(2, ([.int .i64 i28_.gClause.gHead.gKind, .str i28_.gClause.gHead.gName, .int .i64 i28_.gClause.gHead.gNum, .sl (List.map GTerm.c i28_.gClause.gHead.gKids), .int .i64 i28_.gClause.gBody.gKind, .str i28_.gClause.gBody.gName, .int .i64 i28_.gClause.gBody.gNum, .sl (List.map GTerm.c i28_.gClause.gBody.gKids), .str i28_.gClause.gFile, .sl (List.map GIns.c i28_.gCode.gHead), .sl (List.map GIns.c i28_.gCode.gBody), .int .i64 i28_.gCode.gVars, .int .i64 i28_.gBorn, .int .i64 i28_.gDied], []))], []⟩ (by kernel_rfl) ?_
    refine Wc.skip ?_
    refine Wc.seq ?_
    obtain ⟨b31_, h28, h⟩ := obind h
    refine Wc.region [((none, []), none), ((none, []), none), ((none, []), none), ((some (.int .i64 b31_), []), none)] [1] [] [] ⟨[(1, (.v (.int .i64 b31_), []))], [], []⟩ _ (by kernel_rfl) (.cons (claws_szCode h28) .nil) ?_
    refine Wc.seq ?_
    refine Wc.seq ?_
    refine Wc.region [] [1, 16] [] [] ⟨[(1, (.v (.int .i64 b31_), [])), (16, (.v (.bool (decide (b31_ < 0))), []))], [], []⟩ _ (by kernel_rfl) .nil ?_
    rcases oif h with ⟨h29, h⟩ | ⟨h29, h⟩
    · refine Wc.condT h29 (by kernel_rfl) ?_
      refine Wc.seq ?_
      refine Wc.region [] [4] [] [] ⟨[(4, (.v (.int .i64 (-1)), []))], [], []⟩ _ (by kernel_rfl) .nil ?_
      refine Wc.ret ?_
      obtain rfl := Option.some.inj h
      exact ⟨.inl rfl, by kernel_rfl⟩
    · refine Wc.condF h29 (by kernel_rfl) ?_
      refine Wc.keep [1] [] [] ⟨[(1, (.v (.int .i64 b31_), []))], [], []⟩ (by kernel_rfl) ?_
      refine Wc.skip ?_
      refine Wc.seq ?_
      refine Wc.region [] [4] [] [] ⟨[(4, (.v (.int .i64 b31_), []))], [], []⟩ _ (by kernel_rfl) .nil ?_
      refine Wc.ret ?_
      obtain rfl := Option.some.inj h
      exact ⟨.inl rfl, by kernel_rfl⟩

/-- spec.AliveAt -/
def pspec_AliveAt (k : Nat) (i32_ : GKept) (b33_ : Int) : Option Bool :=
  if (decide (i32_.gBorn ≤ b33_)) = true then
    if (i32_.gDied == 0) = true then
      some true
    else
      some (decide (i32_.gDied > b33_))
  else
    some false
theorem cspec_AliveAt {k : Nat} {i32_ : GKept} {b33_ : Int} {r : Bool} (h : pspec_AliveAt k i32_ b33_ = some r) : FnC Try.prog 24 [.agg [.int .i64 i32_.gClause.gHead.gKind, .str i32_.gClause.gHead.gName, .int .i64 i32_.gClause.gHead.gNum, .sl (List.map GTerm.c i32_.gClause.gHead.gKids), .int .i64 i32_.gClause.gBody.gKind, .str i32_.gClause.gBody.gName, .int .i64 i32_.gClause.gBody.gNum, .sl (List.map GTerm.c i32_.gClause.gBody.gKids), .str i32_.gClause.gFile, .sl (List.map GIns.c i32_.gCode.gHead), .sl (List.map GIns.c i32_.gCode.gBody), .int .i64 i32_.gCode.gVars, .int .i64 i32_.gBorn, .int .i64 i32_.gDied], .int .i64 b33_] (.bool r) [] := by
  refine FnC.of Try.func24 (rfl : Try.f24.body = some _) (Nat.le_of_ble_eq_true (by kernel_rfl)) ?_
  intro w0 X0
  unfold pspec_AliveAt at h
  refine Wc.seq ?_
  refine Wc.region [] [1, 2] [2] [] ⟨[(1, (.v (.int .i64 b33_), [])), (2, (.ptr 2 0, []))], [(2, ([.int .i64 i32_.gClause.gHead.gKind, .str i32_.gClause.gHead.gName, .int .i64 i32_.gClause.gHead.gNum, .sl (List.map GTerm.c i32_.gClause.gHead.gKids), .int .i64 i32_.gClause.gBody.gKind, .str i32_.gClause.gBody.gName, .int .i64 i32_.gClause.gBody.gNum, .sl (List.map GTerm.c i32_.gClause.gBody.gKids), .str i32_.gClause.gFile, .sl (List.map GIns.c i32_.gCode.gHead), .sl (List.map GIns.c i32_.gCode.gBody), .int .i64 i32_.gCode.gVars, .int .i64 i32_.gBorn, .int .i64 i32_.gDied], []))], []⟩ _ (by kernel_rfl) .nil ?_
  refine Wc.seq ?_
  rcases oif h with ⟨h30, h⟩ | ⟨h30, h⟩
  · rcases oif h with ⟨h31, h⟩ | ⟨h31, h⟩
    · refine Wc.region [((none, []), none), ((none, []), none), ((none, []), none), ((none, []), none), ((none, []), some (.bool true)), ((none, []), none), ((none, []), none), ((none, []), none), ((none, []), some (.bool true))] [4] [] [] ⟨[(4, (.v (.bool true), []))], [], []⟩ _ (by kernel_rfl) (.cons (congrArg AV.bool h30) (.cons (congrArg AV.bool h31) .nil)) ?_
      refine Wc.ret ?_
      obtain rfl := Option.some.inj h
      exact ⟨.inl rfl, by kernel_rfl⟩
    · refine Wc.region [((none, []), none), ((none, []), none), ((none, []), none), ((none, []), none), ((none, []), some (.bool true)), ((none, []), none), ((none, []), none), ((none, []), none), ((none, []), some (.bool false))] [4] [] [] ⟨[(4, (.v (.bool (decide (i32_.gDied > b33_))), []))], [], []⟩ _ (by kernel_rfl) (.cons (congrArg AV.bool h30) (.cons (congrArg AV.bool h31) .nil)) ?_
      refine Wc.ret ?_
      obtain rfl := Option.some.inj h
      exact ⟨.inl rfl, by kernel_rfl⟩
  · refine Wc.region [((none, []), none), ((none, []), none), ((none, []), none), ((none, []), none), ((none, []), some (.bool false))] [4] [] [] ⟨[(4, (.v (.bool false), []))], [], []⟩ _ (by kernel_rfl) (.cons (congrArg AV.bool h30) .nil) ?_
    refine Wc.ret ?_
    obtain rfl := Option.some.inj h
    exact ⟨.inl rfl, by kernel_rfl⟩

def plaws_toTermS_L1 (k : Nat) (rlaws_toTerm : GTerm → Option GTerm) (rlaws_toTermS : (List GTerm) → Option (List GTerm)) (c36_ : List GTerm) : Nat → Int → (List GTerm) → Option (Out (List GTerm) (List GTerm))
  | 0, _, _ => none
  | m + 1, b37_, c38_ =>
    if (decide (b37_ < (c36_.length : Int))) = true then
      (at' c36_ b37_).bind fun a40_ =>
      (rlaws_toTerm a40_).bind fun a41_ =>
      if 0 ≤ b37_ ∧ (b37_).toNat < c38_.length then
        plaws_toTermS_L1 k rlaws_toTerm rlaws_toTermS c36_ m (wr.i64 (b37_ + 1)) (c38_.set ((b37_).toNat) a41_)
      else none
    else
      some (.done c38_)
mutual
/-- laws.toTerm -/
def plaws_toTerm : Nat → GTerm → Option GTerm
  | 0, _ => none
  | k + 1, a34_ =>
    (plaws_toTermS k a34_.gKids).bind fun c35_ =>
    some (GTerm.mk a34_.gKind a34_.gName a34_.gNum c35_)
/-- laws.toTermS -/
def plaws_toTermS : Nat → (List GTerm) → Option (List GTerm)
  | 0, _ => none
  | k + 1, c36_ =>
    if 0 ≤ (c36_.length : Int) ∧ (c36_.length : Int) ≤ 1073741824 then
      (plaws_toTermS_L1 k (plaws_toTerm k) (plaws_toTermS k) c36_ k 0 (List.replicate ((c36_.length : Int)).toNat (GTerm.mk 0 (bs []) 0 []))).bind fun out1 => match out1 with
      | .ret r => some r
      | .done c39_ =>
        some c39_
    else none
end
theorem all_plaws_toTerm : ∀ k : Nat, (∀ {a34_ : GTerm} {r : GTerm}, plaws_toTerm k a34_ = some r → FnC Try.prog 35 [.agg [.int .i64 a34_.gKind, .str a34_.gName, .int .i64 a34_.gNum, .sl (List.map GTerm.c a34_.gKids)]] (.agg [.int .i64 r.gKind, .str r.gName, .int .i64 r.gNum, .sl (List.map GTerm.c r.gKids)]) []) ∧
    (∀ {c36_ : List GTerm} {r : List GTerm}, plaws_toTermS k c36_ = some r → FnC Try.prog 42 [.sl (List.map GTerm.c c36_)] (.sl (List.map GTerm.c r)) []) := by
  intro k
  induction k with
  | zero =>
    refine ⟨?_, ?_⟩
    · intro a34_ r h
      exact (onone (by rw [plaws_toTerm] at h; exact h)).elim
    · intro c36_ r h
      exact (onone (by rw [plaws_toTermS] at h; exact h)).elim
  | succ k ih =>
    obtain ⟨ih_plaws_toTerm, ih_plaws_toTermS⟩ := ih
    refine ⟨?_, ?_⟩
    · intro a34_ r h
      rw [plaws_toTerm] at h
      refine FnC.of Try.func35 (rfl : Try.f35.body = some _) (Nat.le_of_ble_eq_true (by kernel_rfl)) ?_
      intro w0 X0
      refine Wc.seq ?_
      refine Wc.region [] [1, 2] [1, 2] [] ⟨[(1, (.ptr 1 0, [])), (2, (.ptr 2 0, []))], [(1, ([.int .i64 a34_.gKind, .str a34_.gName, .int .i64 a34_.gNum, .sl (List.map GTerm.c a34_.gKids)], [])), (2, ([.int .i64 0, .str (bs []), .int .i64 0, .sl (List.map GTerm.c [])], [(3, 40)]))], []⟩ _ (by kernel_rfl) .nil ?_
      refine Wc.seq ?_
      refine Wc.region [] [1, 2, 3] [1, 2, 3] [] ⟨[(1, (.ptr 1 0, [])), (2, (.ptr 2 0, [])), (3, (.ptr 3 0, []))], [(1, ([.int .i64 a34_.gKind, .str a34_.gName, .int .i64 a34_.gNum, .sl (List.map GTerm.c a34_.gKids)], [])), (2, ([.int .i64 0, .str (bs []), .int .i64 0, .sl (List.map GTerm.c [])], [(3, 40)])), (3, ([.int .i64 0, .str (bs []), .int .i64 0, .sl (List.map GTerm.c [])], [(3, 40)]))], []⟩ _ (by kernel_rfl) .nil ?_
      refine Wc.seq ?_
      refine Wc.region [] [1, 2, 3] [1, 2, 3] [] ⟨[(1, (.ptr 1 0, [])), (2, (.ptr 2 0, [])), (3, (.ptr 3 0, []))], [(1, ([.int .i64 a34_.gKind, .str a34_.gName, .int .i64 a34_.gNum, .sl (List.map GTerm.c a34_.gKids)], [])), (2, ([.int .i64 0, .str (bs []), .int .i64 0, .sl (List.map GTerm.c [])], [(3, 40)])), (3, ([.int .i64 a34_.gKind, .str (bs []), .int .i64 0, .sl (List.map GTerm.c [])], [(3, 40)]))], []⟩ _ (by kernel_rfl) .nil ?_
      refine Wc.seq ?_
      refine Wc.region [] [1, 2, 3] [1, 2, 3] [] ⟨[(1, (.ptr 1 0, [])), (2, (.ptr 2 0, [])), (3, (.ptr 3 0, []))], [(1, ([.int .i64 a34_.gKind, .str a34_.gName, .int .i64 a34_.gNum, .sl (List.map GTerm.c a34_.gKids)], [])), (2, ([.int .i64 0, .str (bs []), .int .i64 0, .sl (List.map GTerm.c [])], [(3, 40)])), (3, ([.int .i64 a34_.gKind, .str a34_.gName, .int .i64 0, .sl (List.map GTerm.c [])], [(3, 40)]))], []⟩ _ (by kernel_rfl) .nil ?_
      refine Wc.seq ?_
      refine Wc.region [] [1, 2, 3] [1, 2, 3] [] ⟨[(1, (.ptr 1 0, [])), (2, (.ptr 2 0, [])), (3, (.ptr 3 0, []))], [(1, ([.int .i64 a34_.gKind, .str a34_.gName, .int .i64 a34_.gNum, .sl (List.map GTerm.c a34_.gKids)], [])), (2, ([.int .i64 0, .str (bs []), .int .i64 0, .sl (List.map GTerm.c [])], [(3, 40)])), (3, ([.int .i64 a34_.gKind, .str a34_.gName, .int .i64 a34_.gNum, .sl (List.map GTerm.c [])], [(3, 40)]))], []⟩ _ (by kernel_rfl) .nil ?_
      refine Wc.seq ?_
      obtain ⟨c35_, h32, h⟩ := obind h
      refine Wc.region [((none, []), none), ((none, []), none), ((some (.sl (List.map GTerm.c c35_)), []), none)] [2, 3] [2, 3] [] ⟨[(2, (.ptr 2 0, [])), (3, (.ptr 3 0, []))], [(2, ([.int .i64 0, .str (bs []), .int .i64 0, .sl (List.map GTerm.c [])], [(3, 40)])), (3, ([.int .i64 a34_.gKind, .str a34_.gName, .int .i64 a34_.gNum, .sl (List.map GTerm.c c35_)], []))], []⟩ _ (by kernel_rfl) (.cons (ih_plaws_toTermS h32) .nil) ?_
      refine Wc.seq ?_
      refine Wc.region [] [2] [2] [] ⟨[(2, (.ptr 2 0, []))], [(2, ([.int .i64 a34_.gKind, .str a34_.gName, .int .i64 a34_.gNum, .sl (List.map GTerm.c c35_)], []))], []⟩ _ (by kernel_rfl) .nil ?_
      refine Wc.ret ?_
      obtain rfl := Option.some.inj h
      exact ⟨.inl rfl, by kernel_rfl⟩
    · intro c36_ r h
      rw [plaws_toTermS] at h
      refine FnC.of Try.func42 (rfl : Try.f42.body = some _) (Nat.le_of_ble_eq_true (by kernel_rfl)) ?_
      intro w0 X0
      refine Wc.seq ?_
      refine Wc.region [((none, []), some (.sl (List.map GTerm.c [])))] [0] [] [] ⟨[(0, (.v (.sl (List.map GTerm.c c36_)), []))], [], []⟩ _ (by kernel_rfl) (.cons (nil_re GTerm.c) .nil) ?_
      refine Wc.seq ?_
      obtain ⟨h33, h⟩ := oguard h
      refine Wc.region [((none, []), none), ((some (.int .i64 (c36_.length : Int)), []), none)] [0, 3] [] [7] ⟨[(0, (.v (.sl (List.map GTerm.c c36_)), [])), (3, (.arr 7, []))], [], [(7, (4, List.replicate ((c36_.length : Int)).toNat [.int .i64 0, .str (bs []), .int .i64 0, .sl (List.map GTerm.c [])]))]⟩ _ (by kernel_rfl) (.cons (len_obl GTerm.c c36_) (.cons (ms_obl h33) .nil)) ?_
      refine Wc.re (congrArg (St.mk _ _) ((rc_re (rep_re (c := GTerm.c) (GTerm.c_eq (GTerm.mk 0 (bs []) 0 [])) _) rfl) : _ = [(7, (4, List.map GTerm.c (List.replicate ((c36_.length : Int)).toNat (GTerm.mk 0 (bs []) 0 []))))])) ?_
      refine Wc.seq ?_
      refine Wc.seq ?_
      refine Wc.region [] [0, 3, 4] [] [7] ⟨[(0, (.v (.sl (List.map GTerm.c c36_)), [])), (3, (.arr 7, [])), (4, (.v (.int .i64 0), []))], [], [(7, (4, List.map GTerm.c (List.replicate ((c36_.length : Int)).toNat (GTerm.mk 0 (bs []) 0 []))))]⟩ _ (by kernel_rfl) .nil ?_
      obtain ⟨out1, h34, h⟩ := obind h
      refine Wc.lastJ (fun st => ∃ (c39_ : List GTerm), out1 = .done c39_ ∧ st = ⟨[(3, (.arr 7, []))], [], [(7, (4, List.map GTerm.c c39_))]⟩) ?_ ?_
      · refine Wc.block ?_
        refine Wc.loop (fun m st => ∃ (b37_ : Int) (c38_ : List GTerm), st = ⟨[(0, (.v (.sl (List.map GTerm.c c36_)), [])), (3, (.arr 7, [])), (4, (.v (.int .i64 b37_), []))], [], [(7, (4, List.map GTerm.c c38_))]⟩ ∧ plaws_toTermS_L1 k (plaws_toTerm k) (plaws_toTermS k) c36_ m b37_ c38_ = some out1) ?_ k ⟨_, _, rfl, h34⟩
        rintro m st ⟨b37_, c38_, rfl, h34⟩
        cases m with
        | zero => exact (onone h34).elim
        | succ m =>
          refine Wc.seq ?_
          refine Wc.seq ?_
          refine Wc.region [((none, []), none), ((none, []), none), ((some (.int .i64 (c36_.length : Int)), []), none)] [0, 3, 4, 11] [] [7] ⟨[(0, (.v (.sl (List.map GTerm.c c36_)), [])), (3, (.arr 7, [])), (4, (.v (.int .i64 b37_), [])), (11, (.v (.bool (decide (b37_ < (c36_.length : Int)))), []))], [], [(7, (4, List.map GTerm.c c38_))]⟩ _ (by kernel_rfl) (.cons (len_obl GTerm.c c36_) .nil) ?_
          rcases oif h34 with ⟨h35, h34⟩ | ⟨h35, h34⟩
          · refine Wc.condT h35 (by kernel_rfl) ?_
            refine Wc.keep [0, 3, 4] [] [7] ⟨[(0, (.v (.sl (List.map GTerm.c c36_)), [])), (3, (.arr 7, [])), (4, (.v (.int .i64 b37_), []))], [], [(7, (4, List.map GTerm.c c38_))]⟩ (by kernel_rfl) ?_
            refine Wc.skip ?_
            refine Wc.seq ?_
            refine Wc.block ?_
            obtain ⟨a40_, h36, h34⟩ := obind h34
            obtain ⟨a41_, h37, h34⟩ := obind h34
            obtain ⟨h38, h34⟩ := oguard h34
            refine Wc.region [((none, []), none), ((none, []), none), ((none, []), none), ((none, []), none), ((some (.vptr [.int .i64 a40_.gKind, .str a40_.gName, .int .i64 a40_.gNum, .sl (List.map GTerm.c a40_.gKids)]), []), none), ((none, []), none), ((some (.agg [.int .i64 a41_.gKind, .str a41_.gName, .int .i64 a41_.gNum, .sl (List.map GTerm.c a41_.gKids)]), []), none)] [0, 3, 4] [] [7] ⟨[(0, (.v (.sl (List.map GTerm.c c36_)), [])), (3, (.arr 7, [])), (4, (.v (.int .i64 b37_), []))], [], [(7, (4, (List.map GTerm.c c38_).modify ((b37_).toNat) (fun c => setAll c 0 [.int .i64 a41_.gKind, .str a41_.gName, .int .i64 a41_.gNum, .sl (List.map GTerm.c a41_.gKids)])))]⟩ _ (by kernel_rfl) (.cons (at_obl (c := GTerm.c) (GTerm.c_eq a40_) GTerm.c_len h36) (.cons (len_ok 4 [.int .i64 a40_.gKind, .str a40_.gName, .int .i64 a40_.gNum, .sl (List.map GTerm.c a40_.gKids)]) (.cons (ih_plaws_toTerm h37) (.cons (arr_obl (c := GTerm.c) h38) (.cons (arr_obl (c := GTerm.c) h38).2 .nil))))) ?_
            refine Wc.re (congrArg (St.mk _ _) ((rc_re (mod_re (c := GTerm.c) (GTerm.c_eq a41_) GTerm.c_len _ _) rfl) : _ = [(7, (4, List.map GTerm.c (c38_.set ((b37_).toNat) a41_)))])) ?_
            refine Wc.region [] [0, 3, 4] [] [7] ⟨[(0, (.v (.sl (List.map GTerm.c c36_)), [])), (3, (.arr 7, [])), (4, (.v (.int .i64 (wr.i64 (b37_ + 1))), []))], [], [(7, (4, List.map GTerm.c (c38_.set ((b37_).toNat) a41_)))]⟩ _ (by kernel_rfl) .nil ?_
            exact ⟨_, Nat.lt_succ_self _, _, _, rfl, h34⟩
          · refine Wc.condF h35 (by kernel_rfl) ?_
            refine Wc.keep [3] [] [7] ⟨[(3, (.arr 7, []))], [], [(7, (4, List.map GTerm.c c38_))]⟩ (by kernel_rfl) ?_
            refine Wc.exit ?_
            obtain rfl := Option.some.inj h34
            exact ⟨_, rfl, rfl⟩
      · rintro st ⟨c39_, rfl, rfl⟩
        refine Wc.seq ?_
        refine Wc.region [] [2] [] [7] ⟨[(2, (.arr 7, []))], [], [(7, (4, List.map GTerm.c c39_))]⟩ _ (by kernel_rfl) .nil ?_
        refine Wc.ret ?_
        obtain rfl := Option.some.inj h
        exact ⟨.inl rfl, by kernel_rfl⟩
theorem claws_toTerm {k : Nat} {a34_ : GTerm} {r : GTerm} (h : plaws_toTerm k a34_ = some r) : FnC Try.prog 35 [.agg [.int .i64 a34_.gKind, .str a34_.gName, .int .i64 a34_.gNum, .sl (List.map GTerm.c a34_.gKids)]] (.agg [.int .i64 r.gKind, .str r.gName, .int .i64 r.gNum, .sl (List.map GTerm.c r.gKids)]) [] := (all_plaws_toTerm k).1 h
theorem claws_toTermS {k : Nat} {c36_ : List GTerm} {r : List GTerm} (h : plaws_toTermS k c36_ = some r) : FnC Try.prog 42 [.sl (List.map GTerm.c c36_)] (.sl (List.map GTerm.c r)) [] := (all_plaws_toTerm k).2 h

/-- laws.toClause -/
def plaws_toClause (k : Nat) (d42_ : GClause) : Option GClause :=
  (plaws_toTerm k d42_.gHead).bind fun a43_ =>
  (plaws_toTerm k d42_.gBody).bind fun a44_ =>
  some (GClause.mk a43_ a44_ d42_.gFile)
theorem claws_toClause {k : Nat} {d42_ : GClause} {r : GClause} (h : plaws_toClause k d42_ = some r) : FnC Try.prog 65 [.agg [.int .i64 d42_.gHead.gKind, .str d42_.gHead.gName, .int .i64 d42_.gHead.gNum, .sl (List.map GTerm.c d42_.gHead.gKids), .int .i64 d42_.gBody.gKind, .str d42_.gBody.gName, .int .i64 d42_.gBody.gNum, .sl (List.map GTerm.c d42_.gBody.gKids), .str d42_.gFile]] (.agg [.int .i64 r.gHead.gKind, .str r.gHead.gName, .int .i64 r.gHead.gNum, .sl (List.map GTerm.c r.gHead.gKids), .int .i64 r.gBody.gKind, .str r.gBody.gName, .int .i64 r.gBody.gNum, .sl (List.map GTerm.c r.gBody.gKids), .str r.gFile]) [] := by
  refine FnC.of Try.func65 (rfl : Try.f65.body = some _) (Nat.le_of_ble_eq_true (by kernel_rfl)) ?_
  intro w0 X0
  unfold plaws_toClause at h
  refine Wc.seq ?_
  refine Wc.region [] [1, 2] [1, 2] [] ⟨[(1, (.ptr 1 0, [])), (2, (.ptr 2 0, []))], [(1, ([.int .i64 d42_.gHead.gKind, .str d42_.gHead.gName, .int .i64 d42_.gHead.gNum, .sl (List.map GTerm.c d42_.gHead.gKids), .int .i64 d42_.gBody.gKind, .str d42_.gBody.gName, .int .i64 d42_.gBody.gNum, .sl (List.map GTerm.c d42_.gBody.gKids), .str d42_.gFile], [])), (2, ([.int .i64 0, .str (bs []), .int .i64 0, .sl (List.map GTerm.c []), .int .i64 0, .str (bs []), .int .i64 0, .sl (List.map GTerm.c []), .str (bs [])], [(3, 40), (7, 40)]))], []⟩ _ (by kernel_rfl) .nil ?_
  refine Wc.seq ?_
  refine Wc.region [] [1, 2, 3] [1, 2, 3] [] ⟨[(1, (.ptr 1 0, [])), (2, (.ptr 2 0, [])), (3, (.ptr 3 0, []))], [(1, ([.int .i64 d42_.gHead.gKind, .str d42_.gHead.gName, .int .i64 d42_.gHead.gNum, .sl (List.map GTerm.c d42_.gHead.gKids), .int .i64 d42_.gBody.gKind, .str d42_.gBody.gName, .int .i64 d42_.gBody.gNum, .sl (List.map GTerm.c d42_.gBody.gKids), .str d42_.gFile], [])), (2, ([.int .i64 0, .str (bs []), .int .i64 0, .sl (List.map GTerm.c []), .int .i64 0, .str (bs []), .int .i64 0, .sl (List.map GTerm.c []), .str (bs [])], [(3, 40), (7, 40)])), (3, ([.int .i64 0, .str (bs []), .int .i64 0, .sl (List.map GTerm.c []), .int .i64 0, .str (bs []), .int .i64 0, .sl (List.map GTerm.c []), .str (bs [])], [(3, 40), (7, 40)]))], []⟩ _ (by kernel_rfl) .nil ?_
  refine Wc.seq ?_
  obtain ⟨a43_, h39, h⟩ := obind h
  refine Wc.region [((none, []), none), ((none, []), none), ((some (.agg [.int .i64 a43_.gKind, .str a43_.gName, .int .i64 a43_.gNum, .sl (List.map GTerm.c a43_.gKids)]), []), none)] [1, 2, 3] [1, 2, 3] [] ⟨[(1, (.ptr 1 0, [])), (2, (.ptr 2 0, [])), (3, (.ptr 3 0, []))], [(1, ([.int .i64 d42_.gHead.gKind, .str d42_.gHead.gName, .int .i64 d42_.gHead.gNum, .sl (List.map GTerm.c d42_.gHead.gKids), .int .i64 d42_.gBody.gKind, .str d42_.gBody.gName, .int .i64 d42_.gBody.gNum, .sl (List.map GTerm.c d42_.gBody.gKids), .str d42_.gFile], [])), (2, ([.int .i64 0, .str (bs []), .int .i64 0, .sl (List.map GTerm.c []), .int .i64 0, .str (bs []), .int .i64 0, .sl (List.map GTerm.c []), .str (bs [])], [(3, 40), (7, 40)])), (3, ([.int .i64 a43_.gKind, .str a43_.gName, .int .i64 a43_.gNum, .sl (List.map GTerm.c a43_.gKids), .int .i64 0, .str (bs []), .int .i64 0, .sl (List.map GTerm.c []), .str (bs [])], [(7, 40)]))], []⟩ _ (by kernel_rfl) (.cons (claws_toTerm h39) .nil) ?_
  refine Wc.seq ?_
  obtain ⟨a44_, h40, h⟩ := obind h
  refine Wc.region [((none, []), none), ((none, []), none), ((some (.agg [.int .i64 a44_.gKind, .str a44_.gName, .int .i64 a44_.gNum, .sl (List.map GTerm.c a44_.gKids)]), []), none)] [1, 2, 3] [1, 2, 3] [] ⟨[(1, (.ptr 1 0, [])), (2, (.ptr 2 0, [])), (3, (.ptr 3 0, []))], [(1, ([.int .i64 d42_.gHead.gKind, .str d42_.gHead.gName, .int .i64 d42_.gHead.gNum, .sl (List.map GTerm.c d42_.gHead.gKids), .int .i64 d42_.gBody.gKind, .str d42_.gBody.gName, .int .i64 d42_.gBody.gNum, .sl (List.map GTerm.c d42_.gBody.gKids), .str d42_.gFile], [])), (2, ([.int .i64 0, .str (bs []), .int .i64 0, .sl (List.map GTerm.c []), .int .i64 0, .str (bs []), .int .i64 0, .sl (List.map GTerm.c []), .str (bs [])], [(3, 40), (7, 40)])), (3, ([.int .i64 a43_.gKind, .str a43_.gName, .int .i64 a43_.gNum, .sl (List.map GTerm.c a43_.gKids), .int .i64 a44_.gKind, .str a44_.gName, .int .i64 a44_.gNum, .sl (List.map GTerm.c a44_.gKids), .str (bs [])], []))], []⟩ _ (by kernel_rfl) (.cons (claws_toTerm h40) .nil) ?_
  refine Wc.seq ?_
  refine Wc.region [] [2, 3] [2, 3] [] ⟨[(2, (.ptr 2 0, [])), (3, (.ptr 3 0, []))], [(2, ([.int .i64 0, .str (bs []), .int .i64 0, .sl (List.map GTerm.c []), .int .i64 0, .str (bs []), .int .i64 0, .sl (List.map GTerm.c []), .str (bs [])], [(3, 40), (7, 40)])), (3, ([.int .i64 a43_.gKind, .str a43_.gName, .int .i64 a43_.gNum, .sl (List.map GTerm.c a43_.gKids), .int .i64 a44_.gKind, .str a44_.gName, .int .i64 a44_.gNum, .sl (List.map GTerm.c a44_.gKids), .str d42_.gFile], []))], []⟩ _ (by kernel_rfl) .nil ?_
  refine Wc.seq ?_
  refine Wc.region [] [2] [2] [] ⟨[(2, (.ptr 2 0, []))], [(2, ([.int .i64 a43_.gKind, .str a43_.gName, .int .i64 a43_.gNum, .sl (List.map GTerm.c a43_.gKids), .int .i64 a44_.gKind, .str a44_.gName, .int .i64 a44_.gNum, .sl (List.map GTerm.c a44_.gKids), .str d42_.gFile], []))], []⟩ _ (by kernel_rfl) .nil ?_
  refine Wc.ret ?_
  obtain rfl := Option.some.inj h
  exact ⟨.inl rfl, by kernel_rfl⟩

/-- laws.toIns -/
def plaws_toIns (k : Nat) (e45_ : GIns) : Option GIns :=
  some e45_
theorem claws_toIns {k : Nat} {e45_ : GIns} {r : GIns} (h : plaws_toIns k e45_ = some r) : FnC Try.prog 107 [.agg [.int .i64 e45_.gOp, .str e45_.gName, .int .i64 e45_.gNum, .int .i64 e45_.gMany]] (.agg [.int .i64 r.gOp, .str r.gName, .int .i64 r.gNum, .int .i64 r.gMany]) [] := by
  refine FnC.of Try.func107 (rfl : Try.f107.body = some _) (Nat.le_of_ble_eq_true (by kernel_rfl)) ?_
  intro w0 X0
  unfold plaws_toIns at h
  refine Wc.seq ?_
  refine Wc.region [] [1, 2] [1, 2] [] ⟨[(1, (.ptr 1 0, [])), (2, (.ptr 2 0, []))], [(1, ([.int .i64 e45_.gOp, .str e45_.gName, .int .i64 e45_.gNum, .int .i64 e45_.gMany], [])), (2, ([.int .i64 0, .str (bs []), .int .i64 0, .int .i64 0], []))], []⟩ _ (by kernel_rfl) .nil ?_
  refine Wc.seq ?_
  refine Wc.region [] [1, 2, 3] [1, 2, 3] [] ⟨[(1, (.ptr 1 0, [])), (2, (.ptr 2 0, [])), (3, (.ptr 3 0, []))], [(1, ([.int .i64 e45_.gOp, .str e45_.gName, .int .i64 e45_.gNum, .int .i64 e45_.gMany], [])), (2, ([.int .i64 0, .str (bs []), .int .i64 0, .int .i64 0], [])), (3, ([.int .i64 0, .str (bs []), .int .i64 0, .int .i64 0], []))], []⟩ _ (by kernel_rfl) .nil ?_
  refine Wc.seq ?_
  refine Wc.region [] [1, 2, 3] [1, 2, 3] [] ⟨[(1, (.ptr 1 0, [])), (2, (.ptr 2 0, [])), (3, (.ptr 3 0, []))], [(1, ([.int .i64 e45_.gOp, .str e45_.gName, .int .i64 e45_.gNum, .int .i64 e45_.gMany], [])), (2, ([.int .i64 0, .str (bs []), .int .i64 0, .int .i64 0], [])), (3, ([.int .i64 e45_.gOp, .str (bs []), .int .i64 0, .int .i64 0], []))], []⟩ _ (by kernel_rfl) .nil ?_
  refine Wc.seq ?_
  refine Wc.region [] [1, 2, 3] [1, 2, 3] [] ⟨[(1, (.ptr 1 0, [])), (2, (.ptr 2 0, [])), (3, (.ptr 3 0, []))], [(1, ([.int .i64 e45_.gOp, .str e45_.gName, .int .i64 e45_.gNum, .int .i64 e45_.gMany], [])), (2, ([.int .i64 0, .str (bs []), .int .i64 0, .int .i64 0], [])), (3, ([.int .i64 e45_.gOp, .str e45_.gName, .int .i64 0, .int .i64 0], []))], []⟩ _ (by kernel_rfl) .nil ?_
  refine Wc.seq ?_
  refine Wc.region [] [1, 2, 3] [1, 2, 3] [] ⟨[(1, (.ptr 1 0, [])), (2, (.ptr 2 0, [])), (3, (.ptr 3 0, []))], [(1, ([.int .i64 e45_.gOp, .str e45_.gName, .int .i64 e45_.gNum, .int .i64 e45_.gMany], [])), (2, ([.int .i64 0, .str (bs []), .int .i64 0, .int .i64 0], [])), (3, ([.int .i64 e45_.gOp, .str e45_.gName, .int .i64 e45_.gNum, .int .i64 0], []))], []⟩ _ (by kernel_rfl) .nil ?_
  refine Wc.seq ?_
  refine Wc.region [] [2, 3] [2, 3] [] ⟨[(2, (.ptr 2 0, [])), (3, (.ptr 3 0, []))], [(2, ([.int .i64 0, .str (bs []), .int .i64 0, .int .i64 0], [])), (3, ([.int .i64 e45_.gOp, .str e45_.gName, .int .i64 e45_.gNum, .int .i64 e45_.gMany], []))], []⟩ _ (by kernel_rfl) .nil ?_
  refine Wc.seq ?_
  refine Wc.region [] [2] [2] [] ⟨[(2, (.ptr 2 0, []))], [(2, ([.int .i64 e45_.gOp, .str e45_.gName, .int .i64 e45_.gNum, .int .i64 e45_.gMany], []))], []⟩ _ (by kernel_rfl) .nil ?_
  refine Wc.ret ?_
  obtain rfl := Option.some.inj h
  exact ⟨.inl rfl, by kernel_rfl⟩

def plaws_toInsS_L1 (k : Nat) (f46_ : List GIns) : Nat → Int → (List GIns) → Option (Out (List GIns) (List GIns))
  | 0, _, _ => none
  | m + 1, b47_, f48_ =>
    if (decide (b47_ < (f46_.length : Int))) = true then
      (at' f46_ b47_).bind fun e50_ =>
      (plaws_toIns k e50_).bind fun e51_ =>
      if 0 ≤ b47_ ∧ (b47_).toNat < f48_.length then
        plaws_toInsS_L1 k f46_ m (wr.i64 (b47_ + 1)) (f48_.set ((b47_).toNat) e51_)
      else none
    else
      some (.done f48_)
/-- laws.toInsS -/
def plaws_toInsS (k : Nat) (f46_ : List GIns) : Option (List GIns) :=
  if 0 ≤ (f46_.length : Int) ∧ (f46_.length : Int) ≤ 1073741824 then
    (plaws_toInsS_L1 k f46_ k 0 (List.replicate ((f46_.length : Int)).toNat (GIns.mk 0 (bs []) 0 0))).bind fun out1 => match out1 with
    | .ret r => some r
    | .done f49_ =>
      some f49_
  else none
theorem claws_toInsS {k : Nat} {f46_ : List GIns} {r : List GIns} (h : plaws_toInsS k f46_ = some r) : FnC Try.prog 92 [.sl (List.map GIns.c f46_)] (.sl (List.map GIns.c r)) [] := by
  refine FnC.of Try.func92 (rfl : Try.f92.body = some _) (Nat.le_of_ble_eq_true (by kernel_rfl)) ?_
  intro w0 X0
  unfold plaws_toInsS at h
  refine Wc.seq ?_
  refine Wc.region [((none, []), some (.sl (List.map GIns.c [])))] [0] [] [] ⟨[(0, (.v (.sl (List.map GIns.c f46_)), []))], [], []⟩ _ (by kernel_rfl) (.cons (nil_re GIns.c) .nil) ?_
  refine Wc.seq ?_
  obtain ⟨h41, h⟩ := oguard h
  refine Wc.region [((none, []), none), ((some (.int .i64 (f46_.length : Int)), []), none)] [0, 3] [] [7] ⟨[(0, (.v (.sl (List.map GIns.c f46_)), [])), (3, (.arr 7, []))], [], [(7, (4, List.replicate ((f46_.length : Int)).toNat [.int .i64 0, .str (bs []), .int .i64 0, .int .i64 0]))]⟩ _ (by kernel_rfl) (.cons (len_obl GIns.c f46_) (.cons (ms_obl h41) .nil)) ?_
  refine Wc.re (congrArg (St.mk _ _) ((rc_re (rep_re (c := GIns.c) (GIns.c_eq (GIns.mk 0 (bs []) 0 0)) _) rfl) : _ = [(7, (4, List.map GIns.c (List.replicate ((f46_.length : Int)).toNat (GIns.mk 0 (bs []) 0 0))))])) ?_
  refine Wc.seq ?_
  refine Wc.seq ?_
  refine Wc.region [] [0, 3, 4] [] [7] ⟨[(0, (.v (.sl (List.map GIns.c f46_)), [])), (3, (.arr 7, [])), (4, (.v (.int .i64 0), []))], [], [(7, (4, List.map GIns.c (List.replicate ((f46_.length : Int)).toNat (GIns.mk 0 (bs []) 0 0))))]⟩ _ (by kernel_rfl) .nil ?_
  obtain ⟨out1, h42, h⟩ := obind h
  refine Wc.lastJ (fun st => ∃ (f49_ : List GIns), out1 = .done f49_ ∧ st = ⟨[(3, (.arr 7, []))], [], [(7, (4, List.map GIns.c f49_))]⟩) ?_ ?_
  · refine Wc.block ?_
    refine Wc.loop (fun m st => ∃ (b47_ : Int) (f48_ : List GIns), st = ⟨[(0, (.v (.sl (List.map GIns.c f46_)), [])), (3, (.arr 7, [])), (4, (.v (.int .i64 b47_), []))], [], [(7, (4, List.map GIns.c f48_))]⟩ ∧ plaws_toInsS_L1 k f46_ m b47_ f48_ = some out1) ?_ k ⟨_, _, rfl, h42⟩
    rintro m st ⟨b47_, f48_, rfl, h42⟩
    cases m with
    | zero => exact (onone h42).elim
    | succ m =>
      refine Wc.seq ?_
      refine Wc.seq ?_
      refine Wc.region [((none, []), none), ((none, []), none), ((some (.int .i64 (f46_.length : Int)), []), none)] [0, 3, 4, 11] [] [7] ⟨[(0, (.v (.sl (List.map GIns.c f46_)), [])), (3, (.arr 7, [])), (4, (.v (.int .i64 b47_), [])), (11, (.v (.bool (decide (b47_ < (f46_.length : Int)))), []))], [], [(7, (4, List.map GIns.c f48_))]⟩ _ (by kernel_rfl) (.cons (len_obl GIns.c f46_) .nil) ?_
      rcases oif h42 with ⟨h43, h42⟩ | ⟨h43, h42⟩
      · refine Wc.condT h43 (by kernel_rfl) ?_
        refine Wc.keep [0, 3, 4] [] [7] ⟨[(0, (.v (.sl (List.map GIns.c f46_)), [])), (3, (.arr 7, [])), (4, (.v (.int .i64 b47_), []))], [], [(7, (4, List.map GIns.c f48_))]⟩ (by kernel_rfl) ?_
        refine Wc.skip ?_
        refine Wc.seq ?_
        refine Wc.block ?_
        obtain ⟨e50_, h44, h42⟩ := obind h42
        obtain ⟨e51_, h45, h42⟩ := obind h42
        obtain ⟨h46, h42⟩ := oguard h42
        refine Wc.region [((none, []), none), ((none, []), none), ((none, []), none), ((none, []), none), ((some (.vptr [.int .i64 e50_.gOp, .str e50_.gName, .int .i64 e50_.gNum, .int .i64 e50_.gMany]), []), none), ((none, []), none), ((some (.agg [.int .i64 e51_.gOp, .str e51_.gName, .int .i64 e51_.gNum, .int .i64 e51_.gMany]), []), none)] [0, 3, 4] [] [7] ⟨[(0, (.v (.sl (List.map GIns.c f46_)), [])), (3, (.arr 7, [])), (4, (.v (.int .i64 b47_), []))], [], [(7, (4, (List.map GIns.c f48_).modify ((b47_).toNat) (fun c => setAll c 0 [.int .i64 e51_.gOp, .str e51_.gName, .int .i64 e51_.gNum, .int .i64 e51_.gMany])))]⟩ _ (by kernel_rfl) (.cons (at_obl (c := GIns.c) (GIns.c_eq e50_) GIns.c_len h44) (.cons (len_ok 4 [.int .i64 e50_.gOp, .str e50_.gName, .int .i64 e50_.gNum, .int .i64 e50_.gMany]) (.cons (claws_toIns h45) (.cons (arr_obl (c := GIns.c) h46) (.cons (arr_obl (c := GIns.c) h46).2 .nil))))) ?_
        refine Wc.re (congrArg (St.mk _ _) ((rc_re (mod_re (c := GIns.c) (GIns.c_eq e51_) GIns.c_len _ _) rfl) : _ = [(7, (4, List.map GIns.c (f48_.set ((b47_).toNat) e51_)))])) ?_
        refine Wc.region [] [0, 3, 4] [] [7] ⟨[(0, (.v (.sl (List.map GIns.c f46_)), [])), (3, (.arr 7, [])), (4, (.v (.int .i64 (wr.i64 (b47_ + 1))), []))], [], [(7, (4, List.map GIns.c (f48_.set ((b47_).toNat) e51_)))]⟩ _ (by kernel_rfl) .nil ?_
        exact ⟨_, Nat.lt_succ_self _, _, _, rfl, h42⟩
      · refine Wc.condF h43 (by kernel_rfl) ?_
        refine Wc.keep [3] [] [7] ⟨[(3, (.arr 7, []))], [], [(7, (4, List.map GIns.c f48_))]⟩ (by kernel_rfl) ?_
        refine Wc.exit ?_
        obtain rfl := Option.some.inj h42
        exact ⟨_, rfl, rfl⟩
  · rintro st ⟨f49_, rfl, rfl⟩
    refine Wc.seq ?_
    refine Wc.region [] [2] [] [7] ⟨[(2, (.arr 7, []))], [], [(7, (4, List.map GIns.c f49_))]⟩ _ (by kernel_rfl) .nil ?_
    refine Wc.ret ?_
    obtain rfl := Option.some.inj h
    exact ⟨.inl rfl, by kernel_rfl⟩

/-- laws.toCode -/
def plaws_toCode (k : Nat) (g52_ : GCode) : Option GCode :=
  (plaws_toInsS k g52_.gHead).bind fun f53_ =>
  (plaws_toInsS k g52_.gBody).bind fun f54_ =>
  some (GCode.mk f53_ f54_ g52_.gVars)
theorem claws_toCode {k : Nat} {g52_ : GCode} {r : GCode} (h : plaws_toCode k g52_ = some r) : FnC Try.prog 66 [.agg [.sl (List.map GIns.c g52_.gHead), .sl (List.map GIns.c g52_.gBody), .int .i64 g52_.gVars]] (.agg [.sl (List.map GIns.c r.gHead), .sl (List.map GIns.c r.gBody), .int .i64 r.gVars]) [] := by
  refine FnC.of Try.func66 (rfl : Try.f66.body = some _) (Nat.le_of_ble_eq_true (by kernel_rfl)) ?_
  intro w0 X0
  unfold plaws_toCode at h
  refine Wc.seq ?_
  refine Wc.region [] [1, 2] [1, 2] [] ⟨[(1, (.ptr 1 0, [])), (2, (.ptr 2 0, []))], [(1, ([.sl (List.map GIns.c g52_.gHead), .sl (List.map GIns.c g52_.gBody), .int .i64 g52_.gVars], [])), (2, ([.sl (List.map GIns.c []), .sl (List.map GIns.c []), .int .i64 0], [(0, 149), (1, 149)]))], []⟩ _ (by kernel_rfl) .nil ?_
  refine Wc.seq ?_
  refine Wc.region [] [1, 2, 3] [1, 2, 3] [] ⟨[(1, (.ptr 1 0, [])), (2, (.ptr 2 0, [])), (3, (.ptr 3 0, []))], [(1, ([.sl (List.map GIns.c g52_.gHead), .sl (List.map GIns.c g52_.gBody), .int .i64 g52_.gVars], [])), (2, ([.sl (List.map GIns.c []), .sl (List.map GIns.c []), .int .i64 0], [(0, 149), (1, 149)])), (3, ([.sl (List.map GIns.c []), .sl (List.map GIns.c []), .int .i64 0], [(0, 149), (1, 149)]))], []⟩ _ (by kernel_rfl) .nil ?_
  refine Wc.seq ?_
  obtain ⟨f53_, h47, h⟩ := obind h
  refine Wc.region [((none, []), none), ((none, []), none), ((some (.sl (List.map GIns.c f53_)), []), none)] [1, 2, 3] [1, 2, 3] [] ⟨[(1, (.ptr 1 0, [])), (2, (.ptr 2 0, [])), (3, (.ptr 3 0, []))], [(1, ([.sl (List.map GIns.c g52_.gHead), .sl (List.map GIns.c g52_.gBody), .int .i64 g52_.gVars], [])), (2, ([.sl (List.map GIns.c []), .sl (List.map GIns.c []), .int .i64 0], [(0, 149), (1, 149)])), (3, ([.sl (List.map GIns.c f53_), .sl (List.map GIns.c []), .int .i64 0], [(1, 149)]))], []⟩ _ (by kernel_rfl) (.cons (claws_toInsS h47) .nil) ?_
  refine Wc.seq ?_
  obtain ⟨f54_, h48, h⟩ := obind h
  refine Wc.region [((none, []), none), ((none, []), none), ((some (.sl (List.map GIns.c f54_)), []), none)] [1, 2, 3] [1, 2, 3] [] ⟨[(1, (.ptr 1 0, [])), (2, (.ptr 2 0, [])), (3, (.ptr 3 0, []))], [(1, ([.sl (List.map GIns.c g52_.gHead), .sl (List.map GIns.c g52_.gBody), .int .i64 g52_.gVars], [])), (2, ([.sl (List.map GIns.c []), .sl (List.map GIns.c []), .int .i64 0], [(0, 149), (1, 149)])), (3, ([.sl (List.map GIns.c f53_), .sl (List.map GIns.c f54_), .int .i64 0], []))], []⟩ _ (by kernel_rfl) (.cons (claws_toInsS h48) .nil) ?_
  refine Wc.seq ?_
  refine Wc.region [] [2, 3] [2, 3] [] ⟨[(2, (.ptr 2 0, [])), (3, (.ptr 3 0, []))], [(2, ([.sl (List.map GIns.c []), .sl (List.map GIns.c []), .int .i64 0], [(0, 149), (1, 149)])), (3, ([.sl (List.map GIns.c f53_), .sl (List.map GIns.c f54_), .int .i64 g52_.gVars], []))], []⟩ _ (by kernel_rfl) .nil ?_
  refine Wc.seq ?_
  refine Wc.region [] [2] [2] [] ⟨[(2, (.ptr 2 0, []))], [(2, ([.sl (List.map GIns.c f53_), .sl (List.map GIns.c f54_), .int .i64 g52_.gVars], []))], []⟩ _ (by kernel_rfl) .nil ?_
  refine Wc.ret ?_
  obtain rfl := Option.some.inj h
  exact ⟨.inl rfl, by kernel_rfl⟩

/-- laws.toKept -/
def plaws_toKept (k : Nat) (i55_ : GKept) : Option GKept :=
  (plaws_toClause k i55_.gClause).bind fun d56_ =>
  (plaws_toCode k i55_.gCode).bind fun g57_ =>
  some (GKept.mk d56_ g57_ i55_.gBorn i55_.gDied)
theorem claws_toKept {k : Nat} {i55_ : GKept} {r : GKept} (h : plaws_toKept k i55_ = some r) : FnC Try.prog 25 [.agg [.int .i64 i55_.gClause.gHead.gKind, .str i55_.gClause.gHead.gName, .int .i64 i55_.gClause.gHead.gNum, .sl (List.map GTerm.c i55_.gClause.gHead.gKids), .int .i64 i55_.gClause.gBody.gKind, .str i55_.gClause.gBody.gName, .int .i64 i55_.gClause.gBody.gNum, .sl (List.map GTerm.c i55_.gClause.gBody.gKids), .str i55_.gClause.gFile, .sl (List.map GIns.c i55_.gCode.gHead), .sl (List.map GIns.c i55_.gCode.gBody), .int .i64 i55_.gCode.gVars, .int .i64 i55_.gBorn, .int .i64 i55_.gDied]] (.agg [.int .i64 r.gClause.gHead.gKind, .str r.gClause.gHead.gName, .int .i64 r.gClause.gHead.gNum, .sl (List.map GTerm.c r.gClause.gHead.gKids), .int .i64 r.gClause.gBody.gKind, .str r.gClause.gBody.gName, .int .i64 r.gClause.gBody.gNum, .sl (List.map GTerm.c r.gClause.gBody.gKids), .str r.gClause.gFile, .sl (List.map GIns.c r.gCode.gHead), .sl (List.map GIns.c r.gCode.gBody), .int .i64 r.gCode.gVars, .int .i64 r.gBorn, .int .i64 r.gDied]) [] := by
  refine FnC.of Try.func25 (rfl : Try.f25.body = some _) (Nat.le_of_ble_eq_true (by kernel_rfl)) ?_
  intro w0 X0
  unfold plaws_toKept at h
  refine Wc.seq ?_
  refine Wc.region [] [1, 2] [1, 2] [] ⟨[(1, (.ptr 1 0, [])), (2, (.ptr 2 0, []))], [(1, ([.int .i64 i55_.gClause.gHead.gKind, .str i55_.gClause.gHead.gName, .int .i64 i55_.gClause.gHead.gNum, .sl (List.map GTerm.c i55_.gClause.gHead.gKids), .int .i64 i55_.gClause.gBody.gKind, .str i55_.gClause.gBody.gName, .int .i64 i55_.gClause.gBody.gNum, .sl (List.map GTerm.c i55_.gClause.gBody.gKids), .str i55_.gClause.gFile, .sl (List.map GIns.c i55_.gCode.gHead), .sl (List.map GIns.c i55_.gCode.gBody), .int .i64 i55_.gCode.gVars, .int .i64 i55_.gBorn, .int .i64 i55_.gDied], [])), (2, ([.int .i64 0, .str (bs []), .int .i64 0, .sl (List.map GTerm.c []), .int .i64 0, .str (bs []), .int .i64 0, .sl (List.map GTerm.c []), .str (bs []), .sl (List.map GIns.c []), .sl (List.map GIns.c []), .int .i64 0, .int .i64 0, .int .i64 0], [(3, 40), (7, 40), (9, 149), (10, 149)]))], []⟩ _ (by kernel_rfl) .nil ?_
  refine Wc.seq ?_
  refine Wc.region [] [1, 2, 3] [1, 2, 3] [] ⟨[(1, (.ptr 1 0, [])), (2, (.ptr 2 0, [])), (3, (.ptr 3 0, []))], [(1, ([.int .i64 i55_.gClause.gHead.gKind, .str i55_.gClause.gHead.gName, .int .i64 i55_.gClause.gHead.gNum, .sl (List.map GTerm.c i55_.gClause.gHead.gKids), .int .i64 i55_.gClause.gBody.gKind, .str i55_.gClause.gBody.gName, .int .i64 i55_.gClause.gBody.gNum, .sl (List.map GTerm.c i55_.gClause.gBody.gKids), .str i55_.gClause.gFile, .sl (List.map GIns.c i55_.gCode.gHead), .sl (List.map GIns.c i55_.gCode.gBody), .int .i64 i55_.gCode.gVars, .int .i64 i55_.gBorn, .int .i64 i55_.gDied], [])), (2, ([.int .i64 0, .str (bs []), .int .i64 0, .sl (List.map GTerm.c []), .int .i64 0, .str (bs []), .int .i64 0, .sl (List.map GTerm.c []), .str (bs []), .sl (List.map GIns.c []), .sl (List.map GIns.c []), .int .i64 0, .int .i64 0, .int .i64 0], [(3, 40), (7, 40), (9, 149), (10, 149)])), (3, ([.int .i64 0, .str (bs []), .int .i64 0, .sl (List.map GTerm.c []), .int .i64 0, .str (bs []), .int .i64 0, .sl (List.map GTerm.c []), .str (bs []), .sl (List.map GIns.c []), .sl (List.map GIns.c []), .int .i64 0, .int .i64 0, .int .i64 0], [(3, 40), (7, 40), (9, 149), (10, 149)]))], []⟩ _ (by kernel_rfl) .nil ?_
  refine Wc.seq ?_
  obtain ⟨d56_, h49, h⟩ := obind h
  refine Wc.region [((none, []), none), ((none, []), none), ((some (.agg [.int .i64 d56_.gHead.gKind, .str d56_.gHead.gName, .int .i64 d56_.gHead.gNum, .sl (List.map GTerm.c d56_.gHead.gKids), .int .i64 d56_.gBody.gKind, .str d56_.gBody.gName, .int .i64 d56_.gBody.gNum, .sl (List.map GTerm.c d56_.gBody.gKids), .str d56_.gFile]), []), none)] [1, 2, 3] [1, 2, 3] [] ⟨[(1, (.ptr 1 0, [])), (2, (.ptr 2 0, [])), (3, (.ptr 3 0, []))], [(1, ([.int .i64 i55_.gClause.gHead.gKind, .str i55_.gClause.gHead.gName, .int .i64 i55_.gClause.gHead.gNum, .sl (List.map GTerm.c i55_.gClause.gHead.gKids), .int .i64 i55_.gClause.gBody.gKind, .str i55_.gClause.gBody.gName, .int .i64 i55_.gClause.gBody.gNum, .sl (List.map GTerm.c i55_.gClause.gBody.gKids), .str i55_.gClause.gFile, .sl (List.map GIns.c i55_.gCode.gHead), .sl (List.map GIns.c i55_.gCode.gBody), .int .i64 i55_.gCode.gVars, .int .i64 i55_.gBorn, .int .i64 i55_.gDied], [])), (2, ([.int .i64 0, .str (bs []), .int .i64 0, .sl (List.map GTerm.c []), .int .i64 0, .str (bs []), .int .i64 0, .sl (List.map GTerm.c []), .str (bs []), .sl (List.map GIns.c []), .sl (List.map GIns.c []), .int .i64 0, .int .i64 0, .int .i64 0], [(3, 40), (7, 40), (9, 149), (10, 149)])), (3, ([.int .i64 d56_.gHead.gKind, .str d56_.gHead.gName, .int .i64 d56_.gHead.gNum, .sl (List.map GTerm.c d56_.gHead.gKids), .int .i64 d56_.gBody.gKind, .str d56_.gBody.gName, .int .i64 d56_.gBody.gNum, .sl (List.map GTerm.c d56_.gBody.gKids), .str d56_.gFile, .sl (List.map GIns.c []), .sl (List.map GIns.c []), .int .i64 0, .int .i64 0, .int .i64 0], [(9, 149), (10, 149)]))], []⟩ _ (by kernel_rfl) (.cons (claws_toClause h49) .nil) ?_
  refine Wc.seq ?_
  obtain ⟨g57_, h50, h⟩ := obind h
  refine Wc.region [((none, []), none), ((none, []), none), ((some (.agg [.sl (List.map GIns.c g57_.gHead), .sl (List.map GIns.c g57_.gBody), .int .i64 g57_.gVars]), []), none)] [1, 2, 3] [1, 2, 3] [] ⟨[(1, (.ptr 1 0, [])), (2, (.ptr 2 0, [])), (3, (.ptr 3 0, []))], [(1, ([.int .i64 i55_.gClause.gHead.gKind, .str i55_.gClause.gHead.gName, .int .i64 i55_.gClause.gHead.gNum, .sl (List.map GTerm.c i55_.gClause.gHead.gKids), .int .i64 i55_.gClause.gBody.gKind, .str i55_.gClause.gBody.gName, .int .i64 i55_.gClause.gBody.gNum, .sl (List.map GTerm.c i55_.gClause.gBody.gKids), .str i55_.gClause.gFile, .sl (List.map GIns.c i55_.gCode.gHead), .sl (List.map GIns.c i55_.gCode.gBody), .int .i64 i55_.gCode.gVars, .int .i64 i55_.gBorn, .int .i64 i55_.gDied], [])), (2, ([.int .i64 0, .str (bs []), .int .i64 0, .sl (List.map GTerm.c []), .int .i64 0, .str (bs []), .int .i64 0, .sl (List.map GTerm.c []), .str (bs []), .sl (List.map GIns.c []), .sl (List.map GIns.c []), .int .i64 0, .int .i64 0, .int .i64 0], [(3, 40), (7, 40), (9, 149), (10, 149)])), (3, ([.int .i64 d56_.gHead.gKind, .str d56_.gHead.gName, .int .i64 d56_.gHead.gNum, .sl (List.map GTerm.c d56_.gHead.gKids), .int .i64 d56_.gBody.gKind, .str d56_.gBody.gName, .int .i64 d56_.gBody.gNum, .sl (List.map GTerm.c d56_.gBody.gKids), .str d56_.gFile, .sl (List.map GIns.c g57_.gHead), .sl (List.map GIns.c g57_.gBody), .int .i64 g57_.gVars, .int .i64 0, .int .i64 0], []))], []⟩ _ (by kernel_rfl) (.cons (claws_toCode h50) .nil) ?_
  refine Wc.seq ?_
  refine Wc.region [] [1, 2, 3] [1, 2, 3] [] ⟨[(1, (.ptr 1 0, [])), (2, (.ptr 2 0, [])), (3, (.ptr 3 0, []))], [(1, ([.int .i64 i55_.gClause.gHead.gKind, .str i55_.gClause.gHead.gName, .int .i64 i55_.gClause.gHead.gNum, .sl (List.map GTerm.c i55_.gClause.gHead.gKids), .int .i64 i55_.gClause.gBody.gKind, .str i55_.gClause.gBody.gName, .int .i64 i55_.gClause.gBody.gNum, .sl (List.map GTerm.c i55_.gClause.gBody.gKids), .str i55_.gClause.gFile, .sl (List.map GIns.c i55_.gCode.gHead), .sl (List.map GIns.c i55_.gCode.gBody), .int .i64 i55_.gCode.gVars, .int .i64 i55_.gBorn, .int .i64 i55_.gDied], [])), (2, ([.int .i64 0, .str (bs []), .int .i64 0, .sl (List.map GTerm.c []), .int .i64 0, .str (bs []), .int .i64 0, .sl (List.map GTerm.c []), .str (bs []), .sl (List.map GIns.c []), .sl (List.map GIns.c []), .int .i64 0, .int .i64 0, .int .i64 0], [(3, 40), (7, 40), (9, 149), (10, 149)])), (3, ([.int .i64 d56_.gHead.gKind, .str d56_.gHead.gName, .int .i64 d56_.gHead.gNum, .sl (List.map GTerm.c d56_.gHead.gKids), .int .i64 d56_.gBody.gKind, .str d56_.gBody.gName, .int .i64 d56_.gBody.gNum, .sl (List.map GTerm.c d56_.gBody.gKids), .str d56_.gFile, .sl (List.map GIns.c g57_.gHead), .sl (List.map GIns.c g57_.gBody), .int .i64 g57_.gVars, .int .i64 i55_.gBorn, .int .i64 0], []))], []⟩ _ (by kernel_rfl) .nil ?_
  refine Wc.seq ?_
  refine Wc.region [] [2, 3] [2, 3] [] ⟨[(2, (.ptr 2 0, [])), (3, (.ptr 3 0, []))], [(2, ([.int .i64 0, .str (bs []), .int .i64 0, .sl (List.map GTerm.c []), .int .i64 0, .str (bs []), .int .i64 0, .sl (List.map GTerm.c []), .str (bs []), .sl (List.map GIns.c []), .sl (List.map GIns.c []), .int .i64 0, .int .i64 0, .int .i64 0], [(3, 40), (7, 40), (9, 149), (10, 149)])), (3, ([.int .i64 d56_.gHead.gKind, .str d56_.gHead.gName, .int .i64 d56_.gHead.gNum, .sl (List.map GTerm.c d56_.gHead.gKids), .int .i64 d56_.gBody.gKind, .str d56_.gBody.gName, .int .i64 d56_.gBody.gNum, .sl (List.map GTerm.c d56_.gBody.gKids), .str d56_.gFile, .sl (List.map GIns.c g57_.gHead), .sl (List.map GIns.c g57_.gBody), .int .i64 g57_.gVars, .int .i64 i55_.gBorn, .int .i64 i55_.gDied], []))], []⟩ _ (by kernel_rfl) .nil ?_
  refine Wc.seq ?_
  refine Wc.region [] [2] [2] [] ⟨[(2, (.ptr 2 0, []))], [(2, ([.int .i64 d56_.gHead.gKind, .str d56_.gHead.gName, .int .i64 d56_.gHead.gNum, .sl (List.map GTerm.c d56_.gHead.gKids), .int .i64 d56_.gBody.gKind, .str d56_.gBody.gName, .int .i64 d56_.gBody.gNum, .sl (List.map GTerm.c d56_.gBody.gKids), .str d56_.gFile, .sl (List.map GIns.c g57_.gHead), .sl (List.map GIns.c g57_.gBody), .int .i64 g57_.gVars, .int .i64 i55_.gBorn, .int .i64 i55_.gDied], []))], []⟩ _ (by kernel_rfl) .nil ?_
  refine Wc.ret ?_
  obtain rfl := Option.some.inj h
  exact ⟨.inl rfl, by kernel_rfl⟩

/-- impl.AliveAt -/
def pimpl_AliveAt (k : Nat) (i58_ : GKept) (b59_ : Int) : Option Bool :=
  if (decide (i58_.gBorn ≤ b59_)) = true then
    if (i58_.gDied == 0) = true then
      some true
    else
      some (decide (i58_.gDied > b59_))
  else
    some false
theorem cimpl_AliveAt {k : Nat} {i58_ : GKept} {b59_ : Int} {r : Bool} (h : pimpl_AliveAt k i58_ b59_ = some r) : FnC Try.prog 26 [.agg [.int .i64 i58_.gClause.gHead.gKind, .str i58_.gClause.gHead.gName, .int .i64 i58_.gClause.gHead.gNum, .sl (List.map GTerm.c i58_.gClause.gHead.gKids), .int .i64 i58_.gClause.gBody.gKind, .str i58_.gClause.gBody.gName, .int .i64 i58_.gClause.gBody.gNum, .sl (List.map GTerm.c i58_.gClause.gBody.gKids), .str i58_.gClause.gFile, .sl (List.map GIns.c i58_.gCode.gHead), .sl (List.map GIns.c i58_.gCode.gBody), .int .i64 i58_.gCode.gVars, .int .i64 i58_.gBorn, .int .i64 i58_.gDied], .int .i64 b59_] (.bool r) [] := by
  refine FnC.of Try.func26 (rfl : Try.f26.body = some _) (Nat.le_of_ble_eq_true (by kernel_rfl)) ?_
  intro w0 X0
  unfold pimpl_AliveAt at h
  refine Wc.seq ?_
  refine Wc.region [] [1, 2] [2] [] ⟨[(1, (.v (.int .i64 b59_), [])), (2, (.ptr 2 0, []))], [(2, ([.int .i64 i58_.gClause.gHead.gKind, .str i58_.gClause.gHead.gName, .int .i64 i58_.gClause.gHead.gNum, .sl (List.map GTerm.c i58_.gClause.gHead.gKids), .int .i64 i58_.gClause.gBody.gKind, .str i58_.gClause.gBody.gName, .int .i64 i58_.gClause.gBody.gNum, .sl (List.map GTerm.c i58_.gClause.gBody.gKids), .str i58_.gClause.gFile, .sl (List.map GIns.c i58_.gCode.gHead), .sl (List.map GIns.c i58_.gCode.gBody), .int .i64 i58_.gCode.gVars, .int .i64 i58_.gBorn, .int .i64 i58_.gDied], []))], []⟩ _ (by kernel_rfl) .nil ?_
  refine Wc.seq ?_
  rcases oif h with ⟨h51, h⟩ | ⟨h51, h⟩
  · rcases oif h with ⟨h52, h⟩ | ⟨h52, h⟩
    · refine Wc.region [((none, []), none), ((none, []), none), ((none, []), none), ((none, []), none), ((none, []), some (.bool true)), ((none, []), none), ((none, []), none), ((none, []), none), ((none, []), some (.bool true))] [4] [] [] ⟨[(4, (.v (.bool true), []))], [], []⟩ _ (by kernel_rfl) (.cons (congrArg AV.bool h51) (.cons (congrArg AV.bool h52) .nil)) ?_
      refine Wc.ret ?_
      obtain rfl := Option.some.inj h
      exact ⟨.inl rfl, by kernel_rfl⟩
    · refine Wc.region [((none, []), none), ((none, []), none), ((none, []), none), ((none, []), none), ((none, []), some (.bool true)), ((none, []), none), ((none, []), none), ((none, []), none), ((none, []), some (.bool false))] [4] [] [] ⟨[(4, (.v (.bool (decide (i58_.gDied > b59_))), []))], [], []⟩ _ (by kernel_rfl) (.cons (congrArg AV.bool h51) (.cons (congrArg AV.bool h52) .nil)) ?_
      refine Wc.ret ?_
      obtain rfl := Option.some.inj h
      exact ⟨.inl rfl, by kernel_rfl⟩
  · refine Wc.region [((none, []), none), ((none, []), none), ((none, []), none), ((none, []), none), ((none, []), some (.bool false))] [4] [] [] ⟨[(4, (.v (.bool false), []))], [], []⟩ _ (by kernel_rfl) (.cons (congrArg AV.bool h51) .nil) ?_
    refine Wc.ret ?_
    obtain rfl := Option.some.inj h
    exact ⟨.inl rfl, by kernel_rfl⟩

def plaws_eqTermS_L1 (k : Nat) (rlaws_eqTerm : GTerm → GTerm → Option Bool) (rlaws_eqTermS : (List GTerm) → (List GTerm) → Option Bool) (c63_ : List GTerm) (c64_ : List GTerm) : Nat → Int → Option (Out Bool Unit)
  | 0, _ => none
  | m + 1, b65_ =>
    if (decide (b65_ < (c63_.length : Int))) = true then
      (at' c63_ b65_).bind fun a66_ =>
      (at' c64_ b65_).bind fun a67_ =>
      (rlaws_eqTerm a66_ a67_).bind fun j68_ =>
      if (!j68_) = true then
        some (.ret false)
      else
        plaws_eqTermS_L1 k rlaws_eqTerm rlaws_eqTermS c63_ c64_ m (wr.i64 (b65_ + 1))
    else
      some (.done ())
mutual
/-- laws.eqTerm -/
def plaws_eqTerm : Nat → GTerm → GTerm → Option Bool
  | 0, _, _ => none
  | k + 1, a60_, a61_ =>
    if (a60_.gKind != a61_.gKind) = true then
      some false
    else
      if (!(sEq a60_.gName a61_.gName)) = true then
        some false
      else
        if (a60_.gNum != a61_.gNum) = true then
          some false
        else
          (plaws_eqTermS k a60_.gKids a61_.gKids).bind fun j62_ =>
          if (!j62_) = true then
            some false
          else
            some true
/-- laws.eqTermS -/
def plaws_eqTermS : Nat → (List GTerm) → (List GTerm) → Option Bool
  | 0, _, _ => none
  | k + 1, c63_, c64_ =>
    if ((c63_.length : Int) != (c64_.length : Int)) = true then
      some false
    else
      (plaws_eqTermS_L1 k (plaws_eqTerm k) (plaws_eqTermS k) c63_ c64_ k 0).bind fun out1 => match out1 with
      | .ret r => some r
      | .done () =>
        some true
end
theorem all_plaws_eqTerm : ∀ k : Nat, (∀ {a60_ : GTerm} {a61_ : GTerm} {r : Bool}, plaws_eqTerm k a60_ a61_ = some r → FnC Try.prog 18 [.agg [.int .i64 a60_.gKind, .str a60_.gName, .int .i64 a60_.gNum, .sl (List.map GTerm.c a60_.gKids)], .agg [.int .i64 a61_.gKind, .str a61_.gName, .int .i64 a61_.gNum, .sl (List.map GTerm.c a61_.gKids)]] (.bool r) []) ∧
    (∀ {c63_ : List GTerm} {c64_ : List GTerm} {r : Bool}, plaws_eqTermS k c63_ c64_ = some r → FnC Try.prog 37 [.sl (List.map GTerm.c c63_), .sl (List.map GTerm.c c64_)] (.bool r) []) := by
  intro k
  induction k with
  | zero =>
    refine ⟨?_, ?_⟩
    · intro a60_ a61_ r h
      exact (onone (by rw [plaws_eqTerm] at h; exact h)).elim
    · intro c63_ c64_ r h
      exact (onone (by rw [plaws_eqTermS] at h; exact h)).elim
  | succ k ih =>
    obtain ⟨ih_plaws_eqTerm, ih_plaws_eqTermS⟩ := ih
    refine ⟨?_, ?_⟩
    · intro a60_ a61_ r h
      rw [plaws_eqTerm] at h
      refine FnC.of Try.func18 (rfl : Try.f18.body = some _) (Nat.le_of_ble_eq_true (by kernel_rfl)) ?_
      intro w0 X0
      refine Wc.seq ?_
      refine Wc.region [] [2, 3] [2, 3] [] ⟨[(2, (.ptr 2 0, [])), (3, (.ptr 3 0, []))], [(2, ([.int .i64 a60_.gKind, .str a60_.gName, .int .i64 a60_.gNum, .sl (List.map GTerm.c a60_.gKids)], [])), (3, ([.int .i64 a61_.gKind, .str a61_.gName, .int .i64 a61_.gNum, .sl (List.map GTerm.c a61_.gKids)], []))], []⟩ _ (by kernel_rfl) .nil ?_
      refine Wc.seq ?_
      refine Wc.seq ?_
      refine Wc.region [] [2, 3, 9] [2, 3] [] ⟨[(2, (.ptr 2 0, [])), (3, (.ptr 3 0, [])), (9, (.v (.bool (a60_.gKind != a61_.gKind)), []))], [(2, ([.int .i64 a60_.gKind, .str a60_.gName, .int .i64 a60_.gNum, .sl (List.map GTerm.c a60_.gKids)], [])), (3, ([.int .i64 a61_.gKind, .str a61_.gName, .int .i64 a61_.gNum, .sl (List.map GTerm.c a61_.gKids)], []))], []⟩ _ (by kernel_rfl) .nil ?_
      rcases oif h with ⟨h53, h⟩ | ⟨h53, h⟩
      · refine Wc.condT h53 (by kernel_rfl) ?_
        refine Wc.seq ?_
        refine Wc.region [] [4] [] [] ⟨[(4, (.v (.bool false), []))], [], []⟩ _ (by kernel_rfl) .nil ?_
        refine Wc.ret ?_
        obtain rfl := Option.some.inj h
        exact ⟨.inl rfl, by kernel_rfl⟩
      · refine Wc.condF h53 (by kernel_rfl) ?_
        refine Wc.keep [2, 3] [2, 3] [] ⟨[(2, (.ptr 2 0, [])), (3, (.ptr 3 0, []))], [(2, ([.int .i64 a60_.gKind, .str a60_.gName, .int .i64 a60_.gNum, .sl (List.map GTerm.c a60_.gKids)], [])), (3, ([.int .i64 a61_.gKind, .str a61_.gName, .int .i64 a61_.gNum, .sl (List.map GTerm.c a61_.gKids)], []))], []⟩ (by kernel_rfl) ?_
        refine Wc.skip ?_
        refine Wc.seq ?_
        refine Wc.seq ?_
        refine Wc.region [] [2, 3, 14] [2, 3] [] ⟨[(2, (.ptr 2 0, [])), (3, (.ptr 3 0, [])), (14, (.v (.bool (!(sEq a60_.gName a61_.gName))), []))], [(2, ([.int .i64 a60_.gKind, .str a60_.gName, .int .i64 a60_.gNum, .sl (List.map GTerm.c a60_.gKids)], [])), (3, ([.int .i64 a61_.gKind, .str a61_.gName, .int .i64 a61_.gNum, .sl (List.map GTerm.c a61_.gKids)], []))], []⟩ _ (by kernel_rfl) .nil ?_
        rcases oif h with ⟨h54, h⟩ | ⟨h54, h⟩
        · refine Wc.condT h54 (by kernel_rfl) ?_
          refine Wc.seq ?_
          refine Wc.region [] [4] [] [] ⟨[(4, (.v (.bool false), []))], [], []⟩ _ (by kernel_rfl) .nil ?_
          refine Wc.ret ?_
          obtain rfl := Option.some.inj h
          exact ⟨.inl rfl, by kernel_rfl⟩
        · refine Wc.condF h54 (by kernel_rfl) ?_
          refine Wc.keep [2, 3] [2, 3] [] ⟨[(2, (.ptr 2 0, [])), (3, (.ptr 3 0, []))], [(2, ([.int .i64 a60_.gKind, .str a60_.gName, .int .i64 a60_.gNum, .sl (List.map GTerm.c a60_.gKids)], [])), (3, ([.int .i64 a61_.gKind, .str a61_.gName, .int .i64 a61_.gNum, .sl (List.map GTerm.c a61_.gKids)], []))], []⟩ (by kernel_rfl) ?_
          refine Wc.skip ?_
          refine Wc.seq ?_
          refine Wc.seq ?_
          refine Wc.region [] [2, 3, 19] [2, 3] [] ⟨[(2, (.ptr 2 0, [])), (3, (.ptr 3 0, [])), (19, (.v (.bool (a60_.gNum != a61_.gNum)), []))], [(2, ([.int .i64 a60_.gKind, .str a60_.gName, .int .i64 a60_.gNum, .sl (List.map GTerm.c a60_.gKids)], [])), (3, ([.int .i64 a61_.gKind, .str a61_.gName, .int .i64 a61_.gNum, .sl (List.map GTerm.c a61_.gKids)], []))], []⟩ _ (by kernel_rfl) .nil ?_
          rcases oif h with ⟨h55, h⟩ | ⟨h55, h⟩
          · refine Wc.condT h55 (by kernel_rfl) ?_
            refine Wc.seq ?_
            refine Wc.region [] [4] [] [] ⟨[(4, (.v (.bool false), []))], [], []⟩ _ (by kernel_rfl) .nil ?_
            refine Wc.ret ?_
            obtain rfl := Option.some.inj h
            exact ⟨.inl rfl, by kernel_rfl⟩
          · refine Wc.condF h55 (by kernel_rfl) ?_
            refine Wc.keep [2, 3] [2, 3] [] ⟨[(2, (.ptr 2 0, [])), (3, (.ptr 3 0, []))], [(2, ([.int .i64 a60_.gKind, .str a60_.gName, .int .i64 a60_.gNum, .sl (List.map GTerm.c a60_.gKids)], [])), (3, ([.int .i64 a61_.gKind, .str a61_.gName, .int .i64 a61_.gNum, .sl (List.map GTerm.c a61_.gKids)], []))], []⟩ (by kernel_rfl) ?_
            refine Wc.skip ?_
            refine Wc.seq ?_
            refine Wc.seq ?_
            obtain ⟨j62_, h56, h⟩ := obind h
            refine Wc.region [((none, []), none), ((none, []), none), ((none, []), none), ((none, []), none), ((some (.bool j62_), []), none)] [25] [] [] ⟨[(25, (.v (.bool (!j62_)), []))], [], []⟩ _ (by kernel_rfl) (.cons (ih_plaws_eqTermS h56) .nil) ?_
            rcases oif h with ⟨h57, h⟩ | ⟨h57, h⟩
            · refine Wc.condT h57 (by kernel_rfl) ?_
              refine Wc.seq ?_
              refine Wc.region [] [4] [] [] ⟨[(4, (.v (.bool false), []))], [], []⟩ _ (by kernel_rfl) .nil ?_
              refine Wc.ret ?_
              obtain rfl := Option.some.inj h
              exact ⟨.inl rfl, by kernel_rfl⟩
            · refine Wc.condF h57 (by kernel_rfl) ?_
              refine Wc.keep [] [] [] ⟨[], [], []⟩ (by kernel_rfl) ?_
              refine Wc.skip ?_
              refine Wc.seq ?_
              refine Wc.region [] [4] [] [] ⟨[(4, (.v (.bool true), []))], [], []⟩ _ (by kernel_rfl) .nil ?_
              refine Wc.ret ?_
              obtain rfl := Option.some.inj h
              exact ⟨.inl rfl, by kernel_rfl⟩
    · intro c63_ c64_ r h
      rw [plaws_eqTermS] at h
      refine FnC.of Try.func37 (rfl : Try.f37.body = some _) (Nat.le_of_ble_eq_true (by kernel_rfl)) ?_
      intro w0 X0
      refine Wc.seq ?_
      refine Wc.region [] [0, 1] [] [] ⟨[(0, (.v (.sl (List.map GTerm.c c63_)), [])), (1, (.v (.sl (List.map GTerm.c c64_)), []))], [], []⟩ _ (by kernel_rfl) .nil ?_
      refine Wc.seq ?_
      refine Wc.seq ?_
      refine Wc.region [((none, []), none), ((some (.int .i64 (c63_.length : Int)), []), none), ((none, []), none), ((some (.int .i64 (c64_.length : Int)), []), none)] [0, 1, 10] [] [] ⟨[(0, (.v (.sl (List.map GTerm.c c63_)), [])), (1, (.v (.sl (List.map GTerm.c c64_)), [])), (10, (.v (.bool ((c63_.length : Int) != (c64_.length : Int))), []))], [], []⟩ _ (by kernel_rfl) (.cons (len_obl GTerm.c c63_) (.cons (len_obl GTerm.c c64_) .nil)) ?_
      rcases oif h with ⟨h58, h⟩ | ⟨h58, h⟩
      · refine Wc.condT h58 (by kernel_rfl) ?_
        refine Wc.seq ?_
        refine Wc.region [] [4] [] [] ⟨[(4, (.v (.bool false), []))], [], []⟩ _ (by kernel_rfl) .nil ?_
        refine Wc.ret ?_
        obtain rfl := Option.some.inj h
        exact ⟨.inl rfl, by kernel_rfl⟩
      · refine Wc.condF h58 (by kernel_rfl) ?_
        refine Wc.keep [0, 1] [] [] ⟨[(0, (.v (.sl (List.map GTerm.c c63_)), [])), (1, (.v (.sl (List.map GTerm.c c64_)), []))], [], []⟩ (by kernel_rfl) ?_
        refine Wc.skip ?_
        refine Wc.seq ?_
        refine Wc.seq ?_
        refine Wc.region [] [0, 1, 5] [] [] ⟨[(0, (.v (.sl (List.map GTerm.c c63_)), [])), (1, (.v (.sl (List.map GTerm.c c64_)), [])), (5, (.v (.int .i64 0), []))], [], []⟩ _ (by kernel_rfl) .nil ?_
        obtain ⟨out1, h59, h⟩ := obind h
        refine Wc.lastJ (fun st => out1 = .done () ∧ st = ⟨[], [], []⟩) ?_ ?_
        · refine Wc.block ?_
          refine Wc.loop (fun m st => ∃ (b65_ : Int), st = ⟨[(0, (.v (.sl (List.map GTerm.c c63_)), [])), (1, (.v (.sl (List.map GTerm.c c64_)), [])), (5, (.v (.int .i64 b65_), []))], [], []⟩ ∧ plaws_eqTermS_L1 k (plaws_eqTerm k) (plaws_eqTermS k) c63_ c64_ m b65_ = some out1) ?_ k ⟨_, rfl, h59⟩
          rintro m st ⟨b65_, rfl, h59⟩
          cases m with
          | zero => exact (onone h59).elim
          | succ m =>
            refine Wc.seq ?_
            refine Wc.seq ?_
            refine Wc.region [((none, []), none), ((none, []), none), ((some (.int .i64 (c63_.length : Int)), []), none)] [0, 1, 5, 14] [] [] ⟨[(0, (.v (.sl (List.map GTerm.c c63_)), [])), (1, (.v (.sl (List.map GTerm.c c64_)), [])), (5, (.v (.int .i64 b65_), [])), (14, (.v (.bool (decide (b65_ < (c63_.length : Int)))), []))], [], []⟩ _ (by kernel_rfl) (.cons (len_obl GTerm.c c63_) .nil) ?_
            rcases oif h59 with ⟨h60, h59⟩ | ⟨h60, h59⟩
            · refine Wc.condT h60 (by kernel_rfl) ?_
              refine Wc.keep [0, 1, 5] [] [] ⟨[(0, (.v (.sl (List.map GTerm.c c63_)), [])), (1, (.v (.sl (List.map GTerm.c c64_)), [])), (5, (.v (.int .i64 b65_), []))], [], []⟩ (by kernel_rfl) ?_
              refine Wc.skip ?_
              refine Wc.seq ?_
              refine Wc.block ?_
              refine Wc.seq ?_
              obtain ⟨a66_, h61, h59⟩ := obind h59
              obtain ⟨a67_, h62, h59⟩ := obind h59
              obtain ⟨j68_, h63, h59⟩ := obind h59
              refine Wc.draw hmix [((none, []), none), ((none, []), none), ((some (.vptr [.int .i64 a66_.gKind, .str a66_.gName, .int .i64 a66_.gNum, .sl (List.map GTerm.c a66_.gKids)]), []), none), ((none, []), none), ((none, []), none), ((none, []), none), ((some (.vptr [.int .i64 a67_.gKind, .str a67_.gName, .int .i64 a67_.gNum, .sl (List.map GTerm.c a67_.gKids)]), []), none), ((none, []), none), ((some (.bool j68_), []), none)] [0, 1, 5, 26] [] [] ⟨[(0, (.v (.sl (List.map GTerm.c c63_)), [])), (1, (.v (.sl (List.map GTerm.c c64_)), [])), (5, (.v (.int .i64 b65_), [])), (26, (.v (.bool (!j68_)), []))], [], []⟩ _ (by kernel_rfl) (.cons (at_obl (c := GTerm.c) (GTerm.c_eq a66_) GTerm.c_len h61) (.cons (len_ok 4 [.int .i64 a66_.gKind, .str a66_.gName, .int .i64 a66_.gNum, .sl (List.map GTerm.c a66_.gKids)]) (.cons (at_obl (c := GTerm.c) (GTerm.c_eq a67_) GTerm.c_len h62) (.cons (len_ok 4 [.int .i64 a67_.gKind, .str a67_.gName, .int .i64 a67_.gNum, .sl (List.map GTerm.c a67_.gKids)]) (.cons (ih_plaws_eqTerm h63) .nil))))) ?_
              rcases oif h59 with ⟨h64, h59⟩ | ⟨h64, h59⟩
              · refine Wc.condT h64 (by kernel_rfl) ?_
                refine Wc.seq ?_
                refine Wc.region [] [4] [] [] ⟨[(4, (.v (.bool false), []))], [], []⟩ _ (by kernel_rfl) .nil ?_
                refine Wc.ret ?_
                obtain rfl := Option.some.inj h59
                obtain rfl := Option.some.inj h
                exact ⟨.inl rfl, by kernel_rfl⟩
              · refine Wc.condF h64 (by kernel_rfl) ?_
                refine Wc.keep [0, 1, 5] [] [] ⟨[(0, (.v (.sl (List.map GTerm.c c63_)), [])), (1, (.v (.sl (List.map GTerm.c c64_)), [])), (5, (.v (.int .i64 b65_), []))], [], []⟩ (by kernel_rfl) ?_
                refine Wc.skip ?_
                refine Wc.region [] [0, 1, 5] [] [] ⟨[(0, (.v (.sl (List.map GTerm.c c63_)), [])), (1, (.v (.sl (List.map GTerm.c c64_)), [])), (5, (.v (.int .i64 (wr.i64 (b65_ + 1))), []))], [], []⟩ _ (by kernel_rfl) .nil ?_
                exact ⟨_, Nat.lt_succ_self _, _, rfl, h59⟩
            · refine Wc.condF h60 (by kernel_rfl) ?_
              refine Wc.keep [] [] [] ⟨[], [], []⟩ (by kernel_rfl) ?_
              refine Wc.exit ?_
              obtain rfl := Option.some.inj h59
              exact ⟨rfl, rfl⟩
        · rintro st ⟨rfl, rfl⟩
          refine Wc.seq ?_
          refine Wc.region [] [4] [] [] ⟨[(4, (.v (.bool true), []))], [], []⟩ _ (by kernel_rfl) .nil ?_
          refine Wc.ret ?_
          obtain rfl := Option.some.inj h
          exact ⟨.inl rfl, by kernel_rfl⟩
theorem claws_eqTerm {k : Nat} {a60_ : GTerm} {a61_ : GTerm} {r : Bool} (h : plaws_eqTerm k a60_ a61_ = some r) : FnC Try.prog 18 [.agg [.int .i64 a60_.gKind, .str a60_.gName, .int .i64 a60_.gNum, .sl (List.map GTerm.c a60_.gKids)], .agg [.int .i64 a61_.gKind, .str a61_.gName, .int .i64 a61_.gNum, .sl (List.map GTerm.c a61_.gKids)]] (.bool r) [] := (all_plaws_eqTerm k).1 h
theorem claws_eqTermS {k : Nat} {c63_ : List GTerm} {c64_ : List GTerm} {r : Bool} (h : plaws_eqTermS k c63_ c64_ = some r) : FnC Try.prog 37 [.sl (List.map GTerm.c c63_), .sl (List.map GTerm.c c64_)] (.bool r) [] := (all_plaws_eqTerm k).2 h

/-- laws.eqClause -/
def plaws_eqClause (k : Nat) (d69_ : GClause) (d70_ : GClause) : Option Bool :=
  (plaws_eqTerm k d69_.gHead d70_.gHead).bind fun j71_ =>
  if (!j71_) = true then
    some false
  else
    (plaws_eqTerm k d69_.gBody d70_.gBody).bind fun j72_ =>
    if (!j72_) = true then
      some false
    else
      if (!(sEq d69_.gFile d70_.gFile)) = true then
        some false
      else
        some true
theorem claws_eqClause {k : Nat} {d69_ : GClause} {d70_ : GClause} {r : Bool} (h : plaws_eqClause k d69_ d70_ = some r) : FnC Try.prog 67 [.agg [.int .i64 d69_.gHead.gKind, .str d69_.gHead.gName, .int .i64 d69_.gHead.gNum, .sl (List.map GTerm.c d69_.gHead.gKids), .int .i64 d69_.gBody.gKind, .str d69_.gBody.gName, .int .i64 d69_.gBody.gNum, .sl (List.map GTerm.c d69_.gBody.gKids), .str d69_.gFile], .agg [.int .i64 d70_.gHead.gKind, .str d70_.gHead.gName, .int .i64 d70_.gHead.gNum, .sl (List.map GTerm.c d70_.gHead.gKids), .int .i64 d70_.gBody.gKind, .str d70_.gBody.gName, .int .i64 d70_.gBody.gNum, .sl (List.map GTerm.c d70_.gBody.gKids), .str d70_.gFile]] (.bool r) [] := by
  refine FnC.of Try.func67 (rfl : Try.f67.body = some _) (Nat.le_of_ble_eq_true (by kernel_rfl)) ?_
  intro w0 X0
  unfold plaws_eqClause at h
  refine Wc.seq ?_
  refine Wc.region [] [2, 3] [2, 3] [] ⟨[(2, (.ptr 2 0, [])), (3, (.ptr 3 0, []))], [(2, ([.int .i64 d69_.gHead.gKind, .str d69_.gHead.gName, .int .i64 d69_.gHead.gNum, .sl (List.map GTerm.c d69_.gHead.gKids), .int .i64 d69_.gBody.gKind, .str d69_.gBody.gName, .int .i64 d69_.gBody.gNum, .sl (List.map GTerm.c d69_.gBody.gKids), .str d69_.gFile], [])), (3, ([.int .i64 d70_.gHead.gKind, .str d70_.gHead.gName, .int .i64 d70_.gHead.gNum, .sl (List.map GTerm.c d70_.gHead.gKids), .int .i64 d70_.gBody.gKind, .str d70_.gBody.gName, .int .i64 d70_.gBody.gNum, .sl (List.map GTerm.c d70_.gBody.gKids), .str d70_.gFile], []))], []⟩ _ (by kernel_rfl) .nil ?_
  refine Wc.seq ?_
  refine Wc.seq ?_
  obtain ⟨j71_, h65, h⟩ := obind h
  refine Wc.region [((none, []), none), ((none, []), none), ((none, []), none), ((none, []), none), ((some (.bool j71_), []), none)] [2, 3, 10] [2, 3] [] ⟨[(2, (.ptr 2 0, [])), (3, (.ptr 3 0, [])), (10, (.v (.bool (!j71_)), []))], [(2, ([.int .i64 d69_.gHead.gKind, .str d69_.gHead.gName, .int .i64 d69_.gHead.gNum, .sl (List.map GTerm.c d69_.gHead.gKids), .int .i64 d69_.gBody.gKind, .str d69_.gBody.gName, .int .i64 d69_.gBody.gNum, .sl (List.map GTerm.c d69_.gBody.gKids), .str d69_.gFile], [])), (3, ([.int .i64 d70_.gHead.gKind, .str d70_.gHead.gName, .int .i64 d70_.gHead.gNum, .sl (List.map GTerm.c d70_.gHead.gKids), .int .i64 d70_.gBody.gKind, .str d70_.gBody.gName, .int .i64 d70_.gBody.gNum, .sl (List.map GTerm.c d70_.gBody.gKids), .str d70_.gFile], []))], []⟩ _ (by kernel_rfl) (.cons (claws_eqTerm h65) .nil) ?_
  rcases oif h with ⟨h66, h⟩ | ⟨h66, h⟩
  · refine Wc.condT h66 (by kernel_rfl) ?_
    refine Wc.seq ?_
    refine Wc.region [] [4] [] [] ⟨[(4, (.v (.bool false), []))], [], []⟩ _ (by kernel_rfl) .nil ?_
    refine Wc.ret ?_
    obtain rfl := Option.some.inj h
    exact ⟨.inl rfl, by kernel_rfl⟩
  · refine Wc.condF h66 (by kernel_rfl) ?_
    refine Wc.keep [2, 3] [2, 3] [] ⟨[(2, (.ptr 2 0, [])), (3, (.ptr 3 0, []))], [(2, ([.int .i64 d69_.gHead.gKind, .str d69_.gHead.gName, .int .i64 d69_.gHead.gNum, .sl (List.map GTerm.c d69_.gHead.gKids), .int .i64 d69_.gBody.gKind, .str d69_.gBody.gName, .int .i64 d69_.gBody.gNum, .sl (List.map GTerm.c d69_.gBody.gKids), .str d69_.gFile], [])), (3, ([.int .i64 d70_.gHead.gKind, .str d70_.gHead.gName, .int .i64 d70_.gHead.gNum, .sl (List.map GTerm.c d70_.gHead.gKids), .int .i64 d70_.gBody.gKind, .str d70_.gBody.gName, .int .i64 d70_.gBody.gNum, .sl (List.map GTerm.c d70_.gBody.gKids), .str d70_.gFile], []))], []⟩ (by kernel_rfl) ?_
    refine Wc.skip ?_
    refine Wc.seq ?_
    refine Wc.seq ?_
    obtain ⟨j72_, h67, h⟩ := obind h
    refine Wc.region [((none, []), none), ((none, []), none), ((none, []), none), ((none, []), none), ((some (.bool j72_), []), none)] [2, 3, 16] [2, 3] [] ⟨[(2, (.ptr 2 0, [])), (3, (.ptr 3 0, [])), (16, (.v (.bool (!j72_)), []))], [(2, ([.int .i64 d69_.gHead.gKind, .str d69_.gHead.gName, .int .i64 d69_.gHead.gNum, .sl (List.map GTerm.c d69_.gHead.gKids), .int .i64 d69_.gBody.gKind, .str d69_.gBody.gName, .int .i64 d69_.gBody.gNum, .sl (List.map GTerm.c d69_.gBody.gKids), .str d69_.gFile], [])), (3, ([.int .i64 d70_.gHead.gKind, .str d70_.gHead.gName, .int .i64 d70_.gHead.gNum, .sl (List.map GTerm.c d70_.gHead.gKids), .int .i64 d70_.gBody.gKind, .str d70_.gBody.gName, .int .i64 d70_.gBody.gNum, .sl (List.map GTerm.c d70_.gBody.gKids), .str d70_.gFile], []))], []⟩ _ (by kernel_rfl) (.cons (claws_eqTerm h67) .nil) ?_
    rcases oif h with ⟨h68, h⟩ | ⟨h68, h⟩
    · refine Wc.condT h68 (by kernel_rfl) ?_
      refine Wc.seq ?_
      refine Wc.region [] [4] [] [] ⟨[(4, (.v (.bool false), []))], [], []⟩ _ (by kernel_rfl) .nil ?_
      refine Wc.ret ?_
      obtain rfl := Option.some.inj h
      exact ⟨.inl rfl, by kernel_rfl⟩
    · refine Wc.condF h68 (by kernel_rfl) ?_
      refine Wc.keep [2, 3] [2, 3] [] ⟨[(2, (.ptr 2 0, [])), (3, (.ptr 3 0, []))], [(2, ([.int .i64 d69_.gHead.gKind, .str d69_.gHead.gName, .int .i64 d69_.gHead.gNum, .sl (List.map GTerm.c d69_.gHead.gKids), .int .i64 d69_.gBody.gKind, .str d69_.gBody.gName, .int .i64 d69_.gBody.gNum, .sl (List.map GTerm.c d69_.gBody.gKids), .str d69_.gFile], [])), (3, ([.int .i64 d70_.gHead.gKind, .str d70_.gHead.gName, .int .i64 d70_.gHead.gNum, .sl (List.map GTerm.c d70_.gHead.gKids), .int .i64 d70_.gBody.gKind, .str d70_.gBody.gName, .int .i64 d70_.gBody.gNum, .sl (List.map GTerm.c d70_.gBody.gKids), .str d70_.gFile], []))], []⟩ (by kernel_rfl) ?_
      refine Wc.skip ?_
      refine Wc.seq ?_
      refine Wc.seq ?_
      refine Wc.region [] [21] [] [] ⟨[(21, (.v (.bool (!(sEq d69_.gFile d70_.gFile))), []))], [], []⟩ _ (by kernel_rfl) .nil ?_
      rcases oif h with ⟨h69, h⟩ | ⟨h69, h⟩
      · refine Wc.condT h69 (by kernel_rfl) ?_
        refine Wc.seq ?_
        refine Wc.region [] [4] [] [] ⟨[(4, (.v (.bool false), []))], [], []⟩ _ (by kernel_rfl) .nil ?_
        refine Wc.ret ?_
        obtain rfl := Option.some.inj h
        exact ⟨.inl rfl, by kernel_rfl⟩
      · refine Wc.condF h69 (by kernel_rfl) ?_
        refine Wc.keep [] [] [] ⟨[], [], []⟩ (by kernel_rfl) ?_
        refine Wc.skip ?_
        refine Wc.seq ?_
        refine Wc.region [] [4] [] [] ⟨[(4, (.v (.bool true), []))], [], []⟩ _ (by kernel_rfl) .nil ?_
        refine Wc.ret ?_
        obtain rfl := Option.some.inj h
        exact ⟨.inl rfl, by kernel_rfl⟩

/-- laws.eqIns -/
def plaws_eqIns (k : Nat) (e73_ : GIns) (e74_ : GIns) : Option Bool :=
  if (e73_.gOp != e74_.gOp) = true then
    some false
  else
    if (!(sEq e73_.gName e74_.gName)) = true then
      some false
    else
      if (e73_.gNum != e74_.gNum) = true then
        some false
      else
        if (e73_.gMany != e74_.gMany) = true then
          some false
        else
          some true
theorem claws_eqIns {k : Nat} {e73_ : GIns} {e74_ : GIns} {r : Bool} (h : plaws_eqIns k e73_ e74_ = some r) : FnC Try.prog 108 [.agg [.int .i64 e73_.gOp, .str e73_.gName, .int .i64 e73_.gNum, .int .i64 e73_.gMany], .agg [.int .i64 e74_.gOp, .str e74_.gName, .int .i64 e74_.gNum, .int .i64 e74_.gMany]] (.bool r) [] := by
  refine FnC.of Try.func108 (rfl : Try.f108.body = some _) (Nat.le_of_ble_eq_true (by kernel_rfl)) ?_
  intro w0 X0
  unfold plaws_eqIns at h
  refine Wc.seq ?_
  refine Wc.region [] [2, 3] [2, 3] [] ⟨[(2, (.ptr 2 0, [])), (3, (.ptr 3 0, []))], [(2, ([.int .i64 e73_.gOp, .str e73_.gName, .int .i64 e73_.gNum, .int .i64 e73_.gMany], [])), (3, ([.int .i64 e74_.gOp, .str e74_.gName, .int .i64 e74_.gNum, .int .i64 e74_.gMany], []))], []⟩ _ (by kernel_rfl) .nil ?_
  refine Wc.seq ?_
  refine Wc.seq ?_
  refine Wc.region [] [2, 3, 9] [2, 3] [] ⟨[(2, (.ptr 2 0, [])), (3, (.ptr 3 0, [])), (9, (.v (.bool (e73_.gOp != e74_.gOp)), []))], [(2, ([.int .i64 e73_.gOp, .str e73_.gName, .int .i64 e73_.gNum, .int .i64 e73_.gMany], [])), (3, ([.int .i64 e74_.gOp, .str e74_.gName, .int .i64 e74_.gNum, .int .i64 e74_.gMany], []))], []⟩ _ (by kernel_rfl) .nil ?_
  rcases oif h with ⟨h70, h⟩ | ⟨h70, h⟩
  · refine Wc.condT h70 (by kernel_rfl) ?_
    refine Wc.seq ?_
    refine Wc.region [] [4] [] [] ⟨[(4, (.v (.bool false), []))], [], []⟩ _ (by kernel_rfl) .nil ?_
    refine Wc.ret ?_
    obtain rfl := Option.some.inj h
    exact ⟨.inl rfl, by kernel_rfl⟩
  · refine Wc.condF h70 (by kernel_rfl) ?_
    refine Wc.keep [2, 3] [2, 3] [] ⟨[(2, (.ptr 2 0, [])), (3, (.ptr 3 0, []))], [(2, ([.int .i64 e73_.gOp, .str e73_.gName, .int .i64 e73_.gNum, .int .i64 e73_.gMany], [])), (3, ([.int .i64 e74_.gOp, .str e74_.gName, .int .i64 e74_.gNum, .int .i64 e74_.gMany], []))], []⟩ (by kernel_rfl) ?_
    refine Wc.skip ?_
    refine Wc.seq ?_
    refine Wc.seq ?_
    refine Wc.region [] [2, 3, 14] [2, 3] [] ⟨[(2, (.ptr 2 0, [])), (3, (.ptr 3 0, [])), (14, (.v (.bool (!(sEq e73_.gName e74_.gName))), []))], [(2, ([.int .i64 e73_.gOp, .str e73_.gName, .int .i64 e73_.gNum, .int .i64 e73_.gMany], [])), (3, ([.int .i64 e74_.gOp, .str e74_.gName, .int .i64 e74_.gNum, .int .i64 e74_.gMany], []))], []⟩ _ (by kernel_rfl) .nil ?_
    rcases oif h with ⟨h71, h⟩ | ⟨h71, h⟩
    · refine Wc.condT h71 (by kernel_rfl) ?_
      refine Wc.seq ?_
      refine Wc.region [] [4] [] [] ⟨[(4, (.v (.bool false), []))], [], []⟩ _ (by kernel_rfl) .nil ?_
      refine Wc.ret ?_
      obtain rfl := Option.some.inj h
      exact ⟨.inl rfl, by kernel_rfl⟩
    · refine Wc.condF h71 (by kernel_rfl) ?_
      refine Wc.keep [2, 3] [2, 3] [] ⟨[(2, (.ptr 2 0, [])), (3, (.ptr 3 0, []))], [(2, ([.int .i64 e73_.gOp, .str e73_.gName, .int .i64 e73_.gNum, .int .i64 e73_.gMany], [])), (3, ([.int .i64 e74_.gOp, .str e74_.gName, .int .i64 e74_.gNum, .int .i64 e74_.gMany], []))], []⟩ (by kernel_rfl) ?_
      refine Wc.skip ?_
      refine Wc.seq ?_
      refine Wc.seq ?_
      refine Wc.region [] [2, 3, 19] [2, 3] [] ⟨[(2, (.ptr 2 0, [])), (3, (.ptr 3 0, [])), (19, (.v (.bool (e73_.gNum != e74_.gNum)), []))], [(2, ([.int .i64 e73_.gOp, .str e73_.gName, .int .i64 e73_.gNum, .int .i64 e73_.gMany], [])), (3, ([.int .i64 e74_.gOp, .str e74_.gName, .int .i64 e74_.gNum, .int .i64 e74_.gMany], []))], []⟩ _ (by kernel_rfl) .nil ?_
      rcases oif h with ⟨h72, h⟩ | ⟨h72, h⟩
      · refine Wc.condT h72 (by kernel_rfl) ?_
        refine Wc.seq ?_
        refine Wc.region [] [4] [] [] ⟨[(4, (.v (.bool false), []))], [], []⟩ _ (by kernel_rfl) .nil ?_
        refine Wc.ret ?_
        obtain rfl := Option.some.inj h
        exact ⟨.inl rfl, by kernel_rfl⟩
      · refine Wc.condF h72 (by kernel_rfl) ?_
        refine Wc.keep [2, 3] [2, 3] [] ⟨[(2, (.ptr 2 0, [])), (3, (.ptr 3 0, []))], [(2, ([.int .i64 e73_.gOp, .str e73_.gName, .int .i64 e73_.gNum, .int .i64 e73_.gMany], [])), (3, ([.int .i64 e74_.gOp, .str e74_.gName, .int .i64 e74_.gNum, .int .i64 e74_.gMany], []))], []⟩ (by kernel_rfl) ?_
        refine Wc.skip ?_
        refine Wc.seq ?_
        refine Wc.seq ?_
        refine Wc.region [] [24] [] [] ⟨[(24, (.v (.bool (e73_.gMany != e74_.gMany)), []))], [], []⟩ _ (by kernel_rfl) .nil ?_
        rcases oif h with ⟨h73, h⟩ | ⟨h73, h⟩
        · refine Wc.condT h73 (by kernel_rfl) ?_
          refine Wc.seq ?_
          refine Wc.region [] [4] [] [] ⟨[(4, (.v (.bool false), []))], [], []⟩ _ (by kernel_rfl) .nil ?_
          refine Wc.ret ?_
          obtain rfl := Option.some.inj h
          exact ⟨.inl rfl, by kernel_rfl⟩
        · refine Wc.condF h73 (by kernel_rfl) ?_
          refine Wc.keep [] [] [] ⟨[], [], []⟩ (by kernel_rfl) ?_
          refine Wc.skip ?_
          refine Wc.seq ?_
          refine Wc.region [] [4] [] [] ⟨[(4, (.v (.bool true), []))], [], []⟩ _ (by kernel_rfl) .nil ?_
          refine Wc.ret ?_
          obtain rfl := Option.some.inj h
          exact ⟨.inl rfl, by kernel_rfl⟩

def plaws_eqInsS_L1 (k : Nat) (f75_ : List GIns) (f76_ : List GIns) : Nat → Int → Option (Out Bool Unit)
  | 0, _ => none
  | m + 1, b77_ =>
    if (decide (b77_ < (f75_.length : Int))) = true then
      (at' f75_ b77_).bind fun e78_ =>
      (at' f76_ b77_).bind fun e79_ =>
      (plaws_eqIns k e78_ e79_).bind fun j80_ =>
      if (!j80_) = true then
        some (.ret false)
      else
        plaws_eqInsS_L1 k f75_ f76_ m (wr.i64 (b77_ + 1))
    else
      some (.done ())
/-- laws.eqInsS -/
def plaws_eqInsS (k : Nat) (f75_ : List GIns) (f76_ : List GIns) : Option Bool :=
  if ((f75_.length : Int) != (f76_.length : Int)) = true then
    some false
  else
    (plaws_eqInsS_L1 k f75_ f76_ k 0).bind fun out1 => match out1 with
    | .ret r => some r
    | .done () =>
      some true
theorem claws_eqInsS {k : Nat} {f75_ : List GIns} {f76_ : List GIns} {r : Bool} (h : plaws_eqInsS k f75_ f76_ = some r) : FnC Try.prog 93 [.sl (List.map GIns.c f75_), .sl (List.map GIns.c f76_)] (.bool r) [] := by
  refine FnC.of Try.func93 (rfl : Try.f93.body = some _) (Nat.le_of_ble_eq_true (by kernel_rfl)) ?_
  intro w0 X0
  unfold plaws_eqInsS at h
  refine Wc.seq ?_
  refine Wc.region [] [0, 1] [] [] ⟨[(0, (.v (.sl (List.map GIns.c f75_)), [])), (1, (.v (.sl (List.map GIns.c f76_)), []))], [], []⟩ _ (by kernel_rfl) .nil ?_
  refine Wc.seq ?_
  refine Wc.seq ?_
  refine Wc.region [((none, []), none), ((some (.int .i64 (f75_.length : Int)), []), none), ((none, []), none), ((some (.int .i64 (f76_.length : Int)), []), none)] [0, 1, 10] [] [] ⟨[(0, (.v (.sl (List.map GIns.c f75_)), [])), (1, (.v (.sl (List.map GIns.c f76_)), [])), (10, (.v (.bool ((f75_.length : Int) != (f76_.length : Int))), []))], [], []⟩ _ (by kernel_rfl) (.cons (len_obl GIns.c f75_) (.cons (len_obl GIns.c f76_) .nil)) ?_
  rcases oif h with ⟨h74, h⟩ | ⟨h74, h⟩
  · refine Wc.condT h74 (by kernel_rfl) ?_
    refine Wc.seq ?_
    refine Wc.region [] [4] [] [] ⟨[(4, (.v (.bool false), []))], [], []⟩ _ (by kernel_rfl) .nil ?_
    refine Wc.ret ?_
    obtain rfl := Option.some.inj h
    exact ⟨.inl rfl, by kernel_rfl⟩
  · refine Wc.condF h74 (by kernel_rfl) ?_
    refine Wc.keep [0, 1] [] [] ⟨[(0, (.v (.sl (List.map GIns.c f75_)), [])), (1, (.v (.sl (List.map GIns.c f76_)), []))], [], []⟩ (by kernel_rfl) ?_
    refine Wc.skip ?_
    refine Wc.seq ?_
    refine Wc.seq ?_
    refine Wc.region [] [0, 1, 5] [] [] ⟨[(0, (.v (.sl (List.map GIns.c f75_)), [])), (1, (.v (.sl (List.map GIns.c f76_)), [])), (5, (.v (.int .i64 0), []))], [], []⟩ _ (by kernel_rfl) .nil ?_
    obtain ⟨out1, h75, h⟩ := obind h
    refine Wc.lastJ (fun st => out1 = .done () ∧ st = ⟨[], [], []⟩) ?_ ?_
    · refine Wc.block ?_
      refine Wc.loop (fun m st => ∃ (b77_ : Int), st = ⟨[(0, (.v (.sl (List.map GIns.c f75_)), [])), (1, (.v (.sl (List.map GIns.c f76_)), [])), (5, (.v (.int .i64 b77_), []))], [], []⟩ ∧ plaws_eqInsS_L1 k f75_ f76_ m b77_ = some out1) ?_ k ⟨_, rfl, h75⟩
      rintro m st ⟨b77_, rfl, h75⟩
      cases m with
      | zero => exact (onone h75).elim
      | succ m =>
        refine Wc.seq ?_
        refine Wc.seq ?_
        refine Wc.region [((none, []), none), ((none, []), none), ((some (.int .i64 (f75_.length : Int)), []), none)] [0, 1, 5, 14] [] [] ⟨[(0, (.v (.sl (List.map GIns.c f75_)), [])), (1, (.v (.sl (List.map GIns.c f76_)), [])), (5, (.v (.int .i64 b77_), [])), (14, (.v (.bool (decide (b77_ < (f75_.length : Int)))), []))], [], []⟩ _ (by kernel_rfl) (.cons (len_obl GIns.c f75_) .nil) ?_
        rcases oif h75 with ⟨h76, h75⟩ | ⟨h76, h75⟩
        · refine Wc.condT h76 (by kernel_rfl) ?_
          refine Wc.keep [0, 1, 5] [] [] ⟨[(0, (.v (.sl (List.map GIns.c f75_)), [])), (1, (.v (.sl (List.map GIns.c f76_)), [])), (5, (.v (.int .i64 b77_), []))], [], []⟩ (by kernel_rfl) ?_
          refine Wc.skip ?_
          refine Wc.seq ?_
          refine Wc.block ?_
          refine Wc.seq ?_
          obtain ⟨e78_, h77, h75⟩ := obind h75
          obtain ⟨e79_, h78, h75⟩ := obind h75
          obtain ⟨j80_, h79, h75⟩ := obind h75
          refine Wc.draw hmix [((none, []), none), ((none, []), none), ((some (.vptr [.int .i64 e78_.gOp, .str e78_.gName, .int .i64 e78_.gNum, .int .i64 e78_.gMany]), []), none), ((none, []), none), ((none, []), none), ((none, []), none), ((some (.vptr [.int .i64 e79_.gOp, .str e79_.gName, .int .i64 e79_.gNum, .int .i64 e79_.gMany]), []), none), ((none, []), none), ((some (.bool j80_), []), none)] [0, 1, 5, 26] [] [] ⟨[(0, (.v (.sl (List.map GIns.c f75_)), [])), (1, (.v (.sl (List.map GIns.c f76_)), [])), (5, (.v (.int .i64 b77_), [])), (26, (.v (.bool (!j80_)), []))], [], []⟩ _ (by kernel_rfl) (.cons (at_obl (c := GIns.c) (GIns.c_eq e78_) GIns.c_len h77) (.cons (len_ok 4 [.int .i64 e78_.gOp, .str e78_.gName, .int .i64 e78_.gNum, .int .i64 e78_.gMany]) (.cons (at_obl (c := GIns.c) (GIns.c_eq e79_) GIns.c_len h78) (.cons (len_ok 4 [.int .i64 e79_.gOp, .str e79_.gName, .int .i64 e79_.gNum, .int .i64 e79_.gMany]) (.cons (claws_eqIns h79) .nil))))) ?_
          rcases oif h75 with ⟨h80, h75⟩ | ⟨h80, h75⟩
          · refine Wc.condT h80 (by kernel_rfl) ?_
            refine Wc.seq ?_
            refine Wc.region [] [4] [] [] ⟨[(4, (.v (.bool false), []))], [], []⟩ _ (by kernel_rfl) .nil ?_
            refine Wc.ret ?_
            obtain rfl := Option.some.inj h75
            obtain rfl := Option.some.inj h
            exact ⟨.inl rfl, by kernel_rfl⟩
          · refine Wc.condF h80 (by kernel_rfl) ?_
            refine Wc.keep [0, 1, 5] [] [] ⟨[(0, (.v (.sl (List.map GIns.c f75_)), [])), (1, (.v (.sl (List.map GIns.c f76_)), [])), (5, (.v (.int .i64 b77_), []))], [], []⟩ (by kernel_rfl) ?_
            refine Wc.skip ?_
            refine Wc.region [] [0, 1, 5] [] [] ⟨[(0, (.v (.sl (List.map GIns.c f75_)), [])), (1, (.v (.sl (List.map GIns.c f76_)), [])), (5, (.v (.int .i64 (wr.i64 (b77_ + 1))), []))], [], []⟩ _ (by kernel_rfl) .nil ?_
            exact ⟨_, Nat.lt_succ_self _, _, rfl, h75⟩
        · refine Wc.condF h76 (by kernel_rfl) ?_
          refine Wc.keep [] [] [] ⟨[], [], []⟩ (by kernel_rfl) ?_
          refine Wc.exit ?_
          obtain rfl := Option.some.inj h75
          exact ⟨rfl, rfl⟩
    · rintro st ⟨rfl, rfl⟩
      refine Wc.seq ?_
      refine Wc.region [] [4] [] [] ⟨[(4, (.v (.bool true), []))], [], []⟩ _ (by kernel_rfl) .nil ?_
      refine Wc.ret ?_
      obtain rfl := Option.some.inj h
      exact ⟨.inl rfl, by kernel_rfl⟩

/-- laws.eqCode -/
def plaws_eqCode (k : Nat) (g81_ : GCode) (g82_ : GCode) : Option Bool :=
  (plaws_eqInsS k g81_.gHead g82_.gHead).bind fun j83_ =>
  if (!j83_) = true then
    some false
  else
    (plaws_eqInsS k g81_.gBody g82_.gBody).bind fun j84_ =>
    if (!j84_) = true then
      some false
    else
      if (g81_.gVars != g82_.gVars) = true then
        some false
      else
        some true
theorem claws_eqCode {k : Nat} {g81_ : GCode} {g82_ : GCode} {r : Bool} (h : plaws_eqCode k g81_ g82_ = some r) : FnC Try.prog 68 [.agg [.sl (List.map GIns.c g81_.gHead), .sl (List.map GIns.c g81_.gBody), .int .i64 g81_.gVars], .agg [.sl (List.map GIns.c g82_.gHead), .sl (List.map GIns.c g82_.gBody), .int .i64 g82_.gVars]] (.bool r) [] := by
  refine FnC.of Try.func68 (rfl : Try.f68.body = some _) (Nat.le_of_ble_eq_true (by kernel_rfl)) ?_
  intro w0 X0
  unfold plaws_eqCode at h
  refine Wc.seq ?_
  refine Wc.region [] [2, 3] [2, 3] [] ⟨[(2, (.ptr 2 0, [])), (3, (.ptr 3 0, []))], [(2, ([.sl (List.map GIns.c g81_.gHead), .sl (List.map GIns.c g81_.gBody), .int .i64 g81_.gVars], [])), (3, ([.sl (List.map GIns.c g82_.gHead), .sl (List.map GIns.c g82_.gBody), .int .i64 g82_.gVars], []))], []⟩ _ (by kernel_rfl) .nil ?_
  refine Wc.seq ?_
  refine Wc.seq ?_
  obtain ⟨j83_, h81, h⟩ := obind h
  refine Wc.region [((none, []), none), ((none, []), none), ((none, []), none), ((none, []), none), ((some (.bool j83_), []), none)] [2, 3, 10] [2, 3] [] ⟨[(2, (.ptr 2 0, [])), (3, (.ptr 3 0, [])), (10, (.v (.bool (!j83_)), []))], [(2, ([.sl (List.map GIns.c g81_.gHead), .sl (List.map GIns.c g81_.gBody), .int .i64 g81_.gVars], [])), (3, ([.sl (List.map GIns.c g82_.gHead), .sl (List.map GIns.c g82_.gBody), .int .i64 g82_.gVars], []))], []⟩ _ (by kernel_rfl) (.cons (claws_eqInsS h81) .nil) ?_
  rcases oif h with ⟨h82, h⟩ | ⟨h82, h⟩
  · refine Wc.condT h82 (by kernel_rfl) ?_
    refine Wc.seq ?_
    refine Wc.region [] [4] [] [] ⟨[(4, (.v (.bool false), []))], [], []⟩ _ (by kernel_rfl) .nil ?_
    refine Wc.ret ?_
    obtain rfl := Option.some.inj h
    exact ⟨.inl rfl, by kernel_rfl⟩
  · refine Wc.condF h82 (by kernel_rfl) ?_
    refine Wc.keep [2, 3] [2, 3] [] ⟨[(2, (.ptr 2 0, [])), (3, (.ptr 3 0, []))], [(2, ([.sl (List.map GIns.c g81_.gHead), .sl (List.map GIns.c g81_.gBody), .int .i64 g81_.gVars], [])), (3, ([.sl (List.map GIns.c g82_.gHead), .sl (List.map GIns.c g82_.gBody), .int .i64 g82_.gVars], []))], []⟩ (by kernel_rfl) ?_
    refine Wc.skip ?_
    refine Wc.seq ?_
    refine Wc.seq ?_
    obtain ⟨j84_, h83, h⟩ := obind h
    refine Wc.region [((none, []), none), ((none, []), none), ((none, []), none), ((none, []), none), ((some (.bool j84_), []), none)] [2, 3, 16] [2, 3] [] ⟨[(2, (.ptr 2 0, [])), (3, (.ptr 3 0, [])), (16, (.v (.bool (!j84_)), []))], [(2, ([.sl (List.map GIns.c g81_.gHead), .sl (List.map GIns.c g81_.gBody), .int .i64 g81_.gVars], [])), (3, ([.sl (List.map GIns.c g82_.gHead), .sl (List.map GIns.c g82_.gBody), .int .i64 g82_.gVars], []))], []⟩ _ (by kernel_rfl) (.cons (claws_eqInsS h83) .nil) ?_
    rcases oif h with ⟨h84, h⟩ | ⟨h84, h⟩
    · refine Wc.condT h84 (by kernel_rfl) ?_
      refine Wc.seq ?_
      refine Wc.region [] [4] [] [] ⟨[(4, (.v (.bool false), []))], [], []⟩ _ (by kernel_rfl) .nil ?_
      refine Wc.ret ?_
      obtain rfl := Option.some.inj h
      exact ⟨.inl rfl, by kernel_rfl⟩
    · refine Wc.condF h84 (by kernel_rfl) ?_
      refine Wc.keep [2, 3] [2, 3] [] ⟨[(2, (.ptr 2 0, [])), (3, (.ptr 3 0, []))], [(2, ([.sl (List.map GIns.c g81_.gHead), .sl (List.map GIns.c g81_.gBody), .int .i64 g81_.gVars], [])), (3, ([.sl (List.map GIns.c g82_.gHead), .sl (List.map GIns.c g82_.gBody), .int .i64 g82_.gVars], []))], []⟩ (by kernel_rfl) ?_
      refine Wc.skip ?_
      refine Wc.seq ?_
      refine Wc.seq ?_
      refine Wc.region [] [21] [] [] ⟨[(21, (.v (.bool (g81_.gVars != g82_.gVars)), []))], [], []⟩ _ (by kernel_rfl) .nil ?_
      rcases oif h with ⟨h85, h⟩ | ⟨h85, h⟩
      · refine Wc.condT h85 (by kernel_rfl) ?_
        refine Wc.seq ?_
        refine Wc.region [] [4] [] [] ⟨[(4, (.v (.bool false), []))], [], []⟩ _ (by kernel_rfl) .nil ?_
        refine Wc.ret ?_
        obtain rfl := Option.some.inj h
        exact ⟨.inl rfl, by kernel_rfl⟩
      · refine Wc.condF h85 (by kernel_rfl) ?_
        refine Wc.keep [] [] [] ⟨[], [], []⟩ (by kernel_rfl) ?_
        refine Wc.skip ?_
        refine Wc.seq ?_
        refine Wc.region [] [4] [] [] ⟨[(4, (.v (.bool true), []))], [], []⟩ _ (by kernel_rfl) .nil ?_
        refine Wc.ret ?_
        obtain rfl := Option.some.inj h
        exact ⟨.inl rfl, by kernel_rfl⟩

/-- laws.eqKept -/
def plaws_eqKept (k : Nat) (i85_ : GKept) (i86_ : GKept) : Option Bool :=
  (plaws_eqClause k i85_.gClause i86_.gClause).bind fun j87_ =>
  if (!j87_) = true then
    some false
  else
    (plaws_eqCode k i85_.gCode i86_.gCode).bind fun j88_ =>
    if (!j88_) = true then
      some false
    else
      if (i85_.gBorn != i86_.gBorn) = true then
        some false
      else
        if (i85_.gDied != i86_.gDied) = true then
          some false
        else
          some true
theorem claws_eqKept {k : Nat} {i85_ : GKept} {i86_ : GKept} {r : Bool} (h : plaws_eqKept k i85_ i86_ = some r) : FnC Try.prog 27 [.agg [.int .i64 i85_.gClause.gHead.gKind, .str i85_.gClause.gHead.gName, .int .i64 i85_.gClause.gHead.gNum, .sl (List.map GTerm.c i85_.gClause.gHead.gKids), .int .i64 i85_.gClause.gBody.gKind, .str i85_.gClause.gBody.gName, .int .i64 i85_.gClause.gBody.gNum, .sl (List.map GTerm.c i85_.gClause.gBody.gKids), .str i85_.gClause.gFile, .sl (List.map GIns.c i85_.gCode.gHead), .sl (List.map GIns.c i85_.gCode.gBody), .int .i64 i85_.gCode.gVars, .int .i64 i85_.gBorn, .int .i64 i85_.gDied], .agg [.int .i64 i86_.gClause.gHead.gKind, .str i86_.gClause.gHead.gName, .int .i64 i86_.gClause.gHead.gNum, .sl (List.map GTerm.c i86_.gClause.gHead.gKids), .int .i64 i86_.gClause.gBody.gKind, .str i86_.gClause.gBody.gName, .int .i64 i86_.gClause.gBody.gNum, .sl (List.map GTerm.c i86_.gClause.gBody.gKids), .str i86_.gClause.gFile, .sl (List.map GIns.c i86_.gCode.gHead), .sl (List.map GIns.c i86_.gCode.gBody), .int .i64 i86_.gCode.gVars, .int .i64 i86_.gBorn, .int .i64 i86_.gDied]] (.bool r) [] := by
  refine FnC.of Try.func27 (rfl : Try.f27.body = some _) (Nat.le_of_ble_eq_true (by kernel_rfl)) ?_
  intro w0 X0
  unfold plaws_eqKept at h
  refine Wc.seq ?_
  refine Wc.region [] [2, 3] [2, 3] [] ⟨[(2, (.ptr 2 0, [])), (3, (.ptr 3 0, []))], [(2, ([.int .i64 i85_.gClause.gHead.gKind, .str i85_.gClause.gHead.gName, .int .i64 i85_.gClause.gHead.gNum, .sl (List.map GTerm.c i85_.gClause.gHead.gKids), .int .i64 i85_.gClause.gBody.gKind, .str i85_.gClause.gBody.gName, .int .i64 i85_.gClause.gBody.gNum, .sl (List.map GTerm.c i85_.gClause.gBody.gKids), .str i85_.gClause.gFile, .sl (List.map GIns.c i85_.gCode.gHead), .sl (List.map GIns.c i85_.gCode.gBody), .int .i64 i85_.gCode.gVars, .int .i64 i85_.gBorn, .int .i64 i85_.gDied], [])), (3, ([.int .i64 i86_.gClause.gHead.gKind, .str i86_.gClause.gHead.gName, .int .i64 i86_.gClause.gHead.gNum, .sl (List.map GTerm.c i86_.gClause.gHead.gKids), .int .i64 i86_.gClause.gBody.gKind, .str i86_.gClause.gBody.gName, .int .i64 i86_.gClause.gBody.gNum, .sl (List.map GTerm.c i86_.gClause.gBody.gKids), .str i86_.gClause.gFile, .sl (List.map GIns.c i86_.gCode.gHead), .sl (List.map GIns.c i86_.gCode.gBody), .int .i64 i86_.gCode.gVars, .int .i64 i86_.gBorn, .int .i64 i86_.gDied], []))], []⟩ _ (by kernel_rfl) .nil ?_
  refine Wc.seq ?_
  refine Wc.seq ?_
  obtain ⟨j87_, h86, h⟩ := obind h
  refine Wc.region [((none, []), none), ((none, []), none), ((none, []), none), ((none, []), none), ((some (.bool j87_), []), none)] [2, 3, 10] [2, 3] [] ⟨[(2, (.ptr 2 0, [])), (3, (.ptr 3 0, [])), (10, (.v (.bool (!j87_)), []))], [(2, ([.int .i64 i85_.gClause.gHead.gKind, .str i85_.gClause.gHead.gName, .int .i64 i85_.gClause.gHead.gNum, .sl (List.map GTerm.c i85_.gClause.gHead.gKids), .int .i64 i85_.gClause.gBody.gKind, .str i85_.gClause.gBody.gName, .int .i64 i85_.gClause.gBody.gNum, .sl (List.map GTerm.c i85_.gClause.gBody.gKids), .str i85_.gClause.gFile, .sl (List.map GIns.c i85_.gCode.gHead), .sl (List.map GIns.c i85_.gCode.gBody), .int .i64 i85_.gCode.gVars, .int .i64 i85_.gBorn, .int .i64 i85_.gDied], [])), (3, ([.int .i64 i86_.gClause.gHead.gKind, .str i86_.gClause.gHead.gName, .int .i64 i86_.gClause.gHead.gNum, .sl (List.map GTerm.c i86_.gClause.gHead.gKids), .int .i64 i86_.gClause.gBody.gKind, .str i86_.gClause.gBody.gName, .int .i64 i86_.gClause.gBody.gNum, .sl (List.map GTerm.c i86_.gClause.gBody.gKids), .str i86_.gClause.gFile, .sl (List.map GIns.c i86_.gCode.gHead), .sl (List.map GIns.c i86_.gCode.gBody), .int .i64 i86_.gCode.gVars, .int .i64 i86_.gBorn, .int .i64 i86_.gDied], []))], []⟩ _ (by kernel_rfl) (.cons (claws_eqClause h86) .nil) ?_
  rcases oif h with ⟨h87, h⟩ | ⟨h87, h⟩
  · refine Wc.condT h87 (by kernel_rfl) ?_
    refine Wc.seq ?_
    refine Wc.region [] [4] [] [] ⟨[(4, (.v (.bool false), []))], [], []⟩ _ (by kernel_rfl) .nil ?_
    refine Wc.ret ?_
    obtain rfl := Option.some.inj h
    exact ⟨.inl rfl, by kernel_rfl⟩
  · refine Wc.condF h87 (by kernel_rfl) ?_
    refine Wc.keep [2, 3] [2, 3] [] ⟨[(2, (.ptr 2 0, [])), (3, (.ptr 3 0, []))], [(2, ([.int .i64 i85_.gClause.gHead.gKind, .str i85_.gClause.gHead.gName, .int .i64 i85_.gClause.gHead.gNum, .sl (List.map GTerm.c i85_.gClause.gHead.gKids), .int .i64 i85_.gClause.gBody.gKind, .str i85_.gClause.gBody.gName, .int .i64 i85_.gClause.gBody.gNum, .sl (List.map GTerm.c i85_.gClause.gBody.gKids), .str i85_.gClause.gFile, .sl (List.map GIns.c i85_.gCode.gHead), .sl (List.map GIns.c i85_.gCode.gBody), .int .i64 i85_.gCode.gVars, .int .i64 i85_.gBorn, .int .i64 i85_.gDied], [])), (3, ([.int .i64 i86_.gClause.gHead.gKind, .str i86_.gClause.gHead.gName, .int .i64 i86_.gClause.gHead.gNum, .sl (List.map GTerm.c i86_.gClause.gHead.gKids), .int .i64 i86_.gClause.gBody.gKind, .str i86_.gClause.gBody.gName, .int .i64 i86_.gClause.gBody.gNum, .sl (List.map GTerm.c i86_.gClause.gBody.gKids), .str i86_.gClause.gFile, .sl (List.map GIns.c i86_.gCode.gHead), .sl (List.map GIns.c i86_.gCode.gBody), .int .i64 i86_.gCode.gVars, .int .i64 i86_.gBorn, .int .i64 i86_.gDied], []))], []⟩ (by kernel_rfl) ?_
    refine Wc.skip ?_
    refine Wc.seq ?_
    refine Wc.seq ?_
    obtain ⟨j88_, h88, h⟩ := obind h
    refine Wc.region [((none, []), none), ((none, []), none), ((none, []), none), ((none, []), none), ((some (.bool j88_), []), none)] [2, 3, 16] [2, 3] [] ⟨[(2, (.ptr 2 0, [])), (3, (.ptr 3 0, [])), (16, (.v (.bool (!j88_)), []))], [(2, ([.int .i64 i85_.gClause.gHead.gKind, .str i85_.gClause.gHead.gName, .int .i64 i85_.gClause.gHead.gNum, .sl (List.map GTerm.c i85_.gClause.gHead.gKids), .int .i64 i85_.gClause.gBody.gKind, .str i85_.gClause.gBody.gName, .int .i64 i85_.gClause.gBody.gNum, .sl (List.map GTerm.c i85_.gClause.gBody.gKids), .str i85_.gClause.gFile, .sl (List.map GIns.c i85_.gCode.gHead), .sl (List.map GIns.c i85_.gCode.gBody), .int .i64 i85_.gCode.gVars, .int .i64 i85_.gBorn, .int .i64 i85_.gDied], [])), (3, ([.int .i64 i86_.gClause.gHead.gKind, .str i86_.gClause.gHead.gName, .int .i64 i86_.gClause.gHead.gNum, .sl (List.map GTerm.c i86_.gClause.gHead.gKids), .int .i64 i86_.gClause.gBody.gKind, .str i86_.gClause.gBody.gName, .int .i64 i86_.gClause.gBody.gNum, .sl (List.map GTerm.c i86_.gClause.gBody.gKids), .str i86_.gClause.gFile, .sl (List.map GIns.c i86_.gCode.gHead), .sl (List.map GIns.c i86_.gCode.gBody), .int .i64 i86_.gCode.gVars, .int .i64 i86_.gBorn, .int .i64 i86_.gDied], []))], []⟩ _ (by kernel_rfl) (.cons (claws_eqCode h88) .nil) ?_
    rcases oif h with ⟨h89, h⟩ | ⟨h89, h⟩
    · refine Wc.condT h89 (by kernel_rfl) ?_
      refine Wc.seq ?_
      refine Wc.region [] [4] [] [] ⟨[(4, (.v (.bool false), []))], [], []⟩ _ (by kernel_rfl) .nil ?_
      refine Wc.ret ?_
      obtain rfl := Option.some.inj h
      exact ⟨.inl rfl, by kernel_rfl⟩
    · refine Wc.condF h89 (by kernel_rfl) ?_
      refine Wc.keep [2, 3] [2, 3] [] ⟨[(2, (.ptr 2 0, [])), (3, (.ptr 3 0, []))], [(2, ([.int .i64 i85_.gClause.gHead.gKind, .str i85_.gClause.gHead.gName, .int .i64 i85_.gClause.gHead.gNum, .sl (List.map GTerm.c i85_.gClause.gHead.gKids), .int .i64 i85_.gClause.gBody.gKind, .str i85_.gClause.gBody.gName, .int .i64 i85_.gClause.gBody.gNum, .sl (List.map GTerm.c i85_.gClause.gBody.gKids), .str i85_.gClause.gFile, .sl (List.map GIns.c i85_.gCode.gHead), .sl (List.map GIns.c i85_.gCode.gBody), .int .i64 i85_.gCode.gVars, .int .i64 i85_.gBorn, .int .i64 i85_.gDied], [])), (3, ([.int .i64 i86_.gClause.gHead.gKind, .str i86_.gClause.gHead.gName, .int .i64 i86_.gClause.gHead.gNum, .sl (List.map GTerm.c i86_.gClause.gHead.gKids), .int .i64 i86_.gClause.gBody.gKind, .str i86_.gClause.gBody.gName, .int .i64 i86_.gClause.gBody.gNum, .sl (List.map GTerm.c i86_.gClause.gBody.gKids), .str i86_.gClause.gFile, .sl (List.map GIns.c i86_.gCode.gHead), .sl (List.map GIns.c i86_.gCode.gBody), .int .i64 i86_.gCode.gVars, .int .i64 i86_.gBorn, .int .i64 i86_.gDied], []))], []⟩ (by kernel_rfl) ?_
      refine Wc.skip ?_
      refine Wc.seq ?_
      refine Wc.seq ?_
      refine Wc.region [] [2, 3, 21] [2, 3] [] ⟨[(2, (.ptr 2 0, [])), (3, (.ptr 3 0, [])), (21, (.v (.bool (i85_.gBorn != i86_.gBorn)), []))], [(2, ([.int .i64 i85_.gClause.gHead.gKind, .str i85_.gClause.gHead.gName, .int .i64 i85_.gClause.gHead.gNum, .sl (List.map GTerm.c i85_.gClause.gHead.gKids), .int .i64 i85_.gClause.gBody.gKind, .str i85_.gClause.gBody.gName, .int .i64 i85_.gClause.gBody.gNum, .sl (List.map GTerm.c i85_.gClause.gBody.gKids), .str i85_.gClause.gFile, .sl (List.map GIns.c i85_.gCode.gHead), .sl (List.map GIns.c i85_.gCode.gBody), .int .i64 i85_.gCode.gVars, .int .i64 i85_.gBorn, .int .i64 i85_.gDied], [])), (3, ([.int .i64 i86_.gClause.gHead.gKind, .str i86_.gClause.gHead.gName, .int .i64 i86_.gClause.gHead.gNum, .sl (List.map GTerm.c i86_.gClause.gHead.gKids), .int .i64 i86_.gClause.gBody.gKind, .str i86_.gClause.gBody.gName, .int .i64 i86_.gClause.gBody.gNum, .sl (List.map GTerm.c i86_.gClause.gBody.gKids), .str i86_.gClause.gFile, .sl (List.map GIns.c i86_.gCode.gHead), .sl (List.map GIns.c i86_.gCode.gBody), .int .i64 i86_.gCode.gVars, .int .i64 i86_.gBorn, .int .i64 i86_.gDied], []))], []⟩ _ (by kernel_rfl) .nil ?_
      rcases oif h with ⟨h90, h⟩ | ⟨h90, h⟩
      · refine Wc.condT h90 (by kernel_rfl) ?_
        refine Wc.seq ?_
        refine Wc.region [] [4] [] [] ⟨[(4, (.v (.bool false), []))], [], []⟩ _ (by kernel_rfl) .nil ?_
        refine Wc.ret ?_
        obtain rfl := Option.some.inj h
        exact ⟨.inl rfl, by kernel_rfl⟩
      · refine Wc.condF h90 (by kernel_rfl) ?_
        refine Wc.keep [2, 3] [2, 3] [] ⟨[(2, (.ptr 2 0, [])), (3, (.ptr 3 0, []))], [(2, ([.int .i64 i85_.gClause.gHead.gKind, .str i85_.gClause.gHead.gName, .int .i64 i85_.gClause.gHead.gNum, .sl (List.map GTerm.c i85_.gClause.gHead.gKids), .int .i64 i85_.gClause.gBody.gKind, .str i85_.gClause.gBody.gName, .int .i64 i85_.gClause.gBody.gNum, .sl (List.map GTerm.c i85_.gClause.gBody.gKids), .str i85_.gClause.gFile, .sl (List.map GIns.c i85_.gCode.gHead), .sl (List.map GIns.c i85_.gCode.gBody), .int .i64 i85_.gCode.gVars, .int .i64 i85_.gBorn, .int .i64 i85_.gDied], [])), (3, ([.int .i64 i86_.gClause.gHead.gKind, .str i86_.gClause.gHead.gName, .int .i64 i86_.gClause.gHead.gNum, .sl (List.map GTerm.c i86_.gClause.gHead.gKids), .int .i64 i86_.gClause.gBody.gKind, .str i86_.gClause.gBody.gName, .int .i64 i86_.gClause.gBody.gNum, .sl (List.map GTerm.c i86_.gClause.gBody.gKids), .str i86_.gClause.gFile, .sl (List.map GIns.c i86_.gCode.gHead), .sl (List.map GIns.c i86_.gCode.gBody), .int .i64 i86_.gCode.gVars, .int .i64 i86_.gBorn, .int .i64 i86_.gDied], []))], []⟩ (by kernel_rfl) ?_
        refine Wc.skip ?_
        refine Wc.seq ?_
        refine Wc.seq ?_
        refine Wc.region [] [26] [] [] ⟨[(26, (.v (.bool (i85_.gDied != i86_.gDied)), []))], [], []⟩ _ (by kernel_rfl) .nil ?_
        rcases oif h with ⟨h91, h⟩ | ⟨h91, h⟩
        · refine Wc.condT h91 (by kernel_rfl) ?_
          refine Wc.seq ?_
          refine Wc.region [] [4] [] [] ⟨[(4, (.v (.bool false), []))], [], []⟩ _ (by kernel_rfl) .nil ?_
          refine Wc.ret ?_
          obtain rfl := Option.some.inj h
          exact ⟨.inl rfl, by kernel_rfl⟩
        · refine Wc.condF h91 (by kernel_rfl) ?_
          refine Wc.keep [] [] [] ⟨[], [], []⟩ (by kernel_rfl) ?_
          refine Wc.skip ?_
          refine Wc.seq ?_
          refine Wc.region [] [4] [] [] ⟨[(4, (.v (.bool true), []))], [], []⟩ _ (by kernel_rfl) .nil ?_
          refine Wc.ret ?_
          obtain rfl := Option.some.inj h
          exact ⟨.inl rfl, by kernel_rfl⟩

/-- laws.FnExactAliveAt -/
def plaws_FnExactAliveAt (k : Nat) (i89_ : GKept) (b90_ : Int) : Option Bool :=
  (plaws_szKept k i89_ 1048576).bind fun b91_ =>
  if (decide (b91_ < 0)) = true then
    some true
  else
    (plaws_toKept k i89_).bind fun i92_ =>
    (pspec_AliveAt k i92_ b90_).bind fun j93_ =>
    (plaws_toKept k i89_).bind fun i94_ =>
    (pimpl_AliveAt k i94_ b90_).bind fun j95_ =>
    if (!(j95_ == j93_)) = true then
      some false
    else
      (plaws_toKept k i89_).bind fun i96_ =>
      (plaws_eqKept k i94_ i96_).bind fun j97_ =>
      if (!j97_) = true then
        some false
      else
        some true
theorem claws_FnExactAliveAt {k : Nat} {i89_ : GKept} {b90_ : Int} {r : Bool} (h : plaws_FnExactAliveAt k i89_ b90_ = some r) : FnC Try.prog 5 [.agg [.int .i64 i89_.gClause.gHead.gKind, .str i89_.gClause.gHead.gName, .int .i64 i89_.gClause.gHead.gNum, .sl (List.map GTerm.c i89_.gClause.gHead.gKids), .int .i64 i89_.gClause.gBody.gKind, .str i89_.gClause.gBody.gName, .int .i64 i89_.gClause.gBody.gNum, .sl (List.map GTerm.c i89_.gClause.gBody.gKids), .str i89_.gClause.gFile, .sl (List.map GIns.c i89_.gCode.gHead), .sl (List.map GIns.c i89_.gCode.gBody), .int .i64 i89_.gCode.gVars, .int .i64 i89_.gBorn, .int .i64 i89_.gDied], .int .i64 b90_] (.bool r) [] := by
  refine FnC.of Try.func5 (rfl : Try.f5.body = some _) (Nat.le_of_ble_eq_true (by kernel_rfl)) ?_
  intro w0 X0
  unfold plaws_FnExactAliveAt at h
  refine Wc.seq ?_
  refine Wc.region [] [1, 2] [2] [] ⟨[(1, (.v (.int .i64 b90_), [])), (2, (.ptr 2 0, []))], [(2, ([.int .i64 i89_.gClause.gHead.gKind, .str i89_.gClause.gHead.gName, .int .i64 i89_.gClause.gHead.gNum, .sl (List.map GTerm.c i89_.gClause.gHead.gKids), .int .i64 i89_.gClause.gBody.gKind, .str i89_.gClause.gBody.gName, .int .i64 i89_.gClause.gBody.gNum, .sl (List.map GTerm.c i89_.gClause.gBody.gKids), .str i89_.gClause.gFile, .sl (List.map GIns.c i89_.gCode.gHead), .sl (List.map GIns.c i89_.gCode.gBody), .int .i64 i89_.gCode.gVars, .int .i64 i89_.gBorn, .int .i64 i89_.gDied], []))], []⟩ _ (by kernel_rfl) .nil ?_
  refine Wc.seq ?_
  refine Wc.region [] [1, 2, 5] [2] [] ⟨[(1, (.v (.int .i64 b90_), [])), (2, (.ptr 2 0, [])), (5, (.v (.int .i64 1048576), []))], [(2, ([.int .i64 i89_.gClause.gHead.gKind, .str i89_.gClause.gHead.gName, .int .i64 i89_.gClause.gHead.gNum, .sl (List.map GTerm.c i89_.gClause.gHead.gKids), .int .i64 i89_.gClause.gBody.gKind, .str i89_.gClause.gBody.gName, .int .i64 i89_.gClause.gBody.gNum, .sl (List.map GTerm.c i89_.gClause.gBody.gKids), .str i89_.gClause.gFile, .sl (List.map GIns.c i89_.gCode.gHead), .sl (List.map GIns.c i89_.gCode.gBody), .int .i64 i89_.gCode.gVars, .int .i64 i89_.gBorn, .int .i64 i89_.gDied], []))], []⟩ _ (by kernel_rfl) .nil ?_
  refine Wc.seq ?_
  obtain ⟨b91_, h92, h⟩ := obind h
  refine Wc.region [((none, []), none), ((none, []), none), ((some (.int .i64 b91_), []), none)] [1, 2, 5] [2] [] ⟨[(1, (.v (.int .i64 b90_), [])), (2, (.ptr 2 0, [])), (5, (.v (.int .i64 b91_), []))], [(2, ([.int .i64 i89_.gClause.gHead.gKind, .str i89_.gClause.gHead.gName, .int .i64 i89_.gClause.gHead.gNum, .sl (List.map GTerm.c i89_.gClause.gHead.gKids), .int .i64 i89_.gClause.gBody.gKind, .str i89_.gClause.gBody.gName, .int .i64 i89_.gClause.gBody.gNum, .sl (List.map GTerm.c i89_.gClause.gBody.gKids), .str i89_.gClause.gFile, .sl (List.map GIns.c i89_.gCode.gHead), .sl (List.map GIns.c i89_.gCode.gBody), .int .i64 i89_.gCode.gVars, .int .i64 i89_.gBorn, .int .i64 i89_.gDied], []))], []⟩ _ (by kernel_rfl) (.cons (claws_szKept h92) .nil) ?_
  refine Wc.seq ?_
  refine Wc.seq ?_
  refine Wc.region [] [1, 2, 13] [2] [] ⟨[(1, (.v (.int .i64 b90_), [])), (2, (.ptr 2 0, [])), (13, (.v (.bool (decide (b91_ < 0))), []))], [(2, ([.int .i64 i89_.gClause.gHead.gKind, .str i89_.gClause.gHead.gName, .int .i64 i89_.gClause.gHead.gNum, .sl (List.map GTerm.c i89_.gClause.gHead.gKids), .int .i64 i89_.gClause.gBody.gKind, .str i89_.gClause.gBody.gName, .int .i64 i89_.gClause.gBody.gNum, .sl (List.map GTerm.c i89_.gClause.gBody.gKids), .str i89_.gClause.gFile, .sl (List.map GIns.c i89_.gCode.gHead), .sl (List.map GIns.c i89_.gCode.gBody), .int .i64 i89_.gCode.gVars, .int .i64 i89_.gBorn, .int .i64 i89_.gDied], []))], []⟩ _ (by kernel_rfl) .nil ?_
  rcases oif h with ⟨h93, h⟩ | ⟨h93, h⟩
  · refine Wc.condT h93 (by kernel_rfl) ?_
    refine Wc.seq ?_
    refine Wc.region [] [4] [] [] ⟨[(4, (.v (.bool true), []))], [], []⟩ _ (by kernel_rfl) .nil ?_
    refine Wc.ret ?_
    obtain rfl := Option.some.inj h
    exact ⟨.inl rfl, by kernel_rfl⟩
  · refine Wc.condF h93 (by kernel_rfl) ?_
    refine Wc.keep [1, 2] [2] [] ⟨[(1, (.v (.int .i64 b90_), [])), (2, (.ptr 2 0, []))], [(2, ([.int .i64 i89_.gClause.gHead.gKind, .str i89_.gClause.gHead.gName, .int .i64 i89_.gClause.gHead.gNum, .sl (List.map GTerm.c i89_.gClause.gHead.gKids), .int .i64 i89_.gClause.gBody.gKind, .str i89_.gClause.gBody.gName, .int .i64 i89_.gClause.gBody.gNum, .sl (List.map GTerm.c i89_.gClause.gBody.gKids), .str i89_.gClause.gFile, .sl (List.map GIns.c i89_.gCode.gHead), .sl (List.map GIns.c i89_.gCode.gBody), .int .i64 i89_.gCode.gVars, .int .i64 i89_.gBorn, .int .i64 i89_.gDied], []))], []⟩ (by kernel_rfl) ?_
    refine Wc.skip ?_
    refine Wc.seq ?_
    obtain ⟨i92_, h94, h⟩ := obind h
    obtain ⟨j93_, h95, h⟩ := obind h
    refine Wc.region [((none, []), none), ((some (.agg [.int .i64 i92_.gClause.gHead.gKind, .str i92_.gClause.gHead.gName, .int .i64 i92_.gClause.gHead.gNum, .sl (List.map GTerm.c i92_.gClause.gHead.gKids), .int .i64 i92_.gClause.gBody.gKind, .str i92_.gClause.gBody.gName, .int .i64 i92_.gClause.gBody.gNum, .sl (List.map GTerm.c i92_.gClause.gBody.gKids), .str i92_.gClause.gFile, .sl (List.map GIns.c i92_.gCode.gHead), .sl (List.map GIns.c i92_.gCode.gBody), .int .i64 i92_.gCode.gVars, .int .i64 i92_.gBorn, .int .i64 i92_.gDied]), []), none), ((none, []), none), ((some (.bool j93_), []), none)] [1, 2, 6] [2] [] ⟨[(1, (.v (.int .i64 b90_), [])), (2, (.ptr 2 0, [])), (6, (.v (.bool j93_), []))], [(2, ([.int .i64 i89_.gClause.gHead.gKind, .str i89_.gClause.gHead.gName, .int .i64 i89_.gClause.gHead.gNum, .sl (List.map GTerm.c i89_.gClause.gHead.gKids), .int .i64 i89_.gClause.gBody.gKind, .str i89_.gClause.gBody.gName, .int .i64 i89_.gClause.gBody.gNum, .sl (List.map GTerm.c i89_.gClause.gBody.gKids), .str i89_.gClause.gFile, .sl (List.map GIns.c i89_.gCode.gHead), .sl (List.map GIns.c i89_.gCode.gBody), .int .i64 i89_.gCode.gVars, .int .i64 i89_.gBorn, .int .i64 i89_.gDied], []))], []⟩ _ (by kernel_rfl) (.cons (claws_toKept h94) (.cons (cspec_AliveAt h95) .nil)) ?_
    refine Wc.seq ?_
    obtain ⟨i94_, h96, h⟩ := obind h
    refine Wc.region [((none, []), none), ((some (.agg [.int .i64 i94_.gClause.gHead.gKind, .str i94_.gClause.gHead.gName, .int .i64 i94_.gClause.gHead.gNum, .sl (List.map GTerm.c i94_.gClause.gHead.gKids), .int .i64 i94_.gClause.gBody.gKind, .str i94_.gClause.gBody.gName, .int .i64 i94_.gClause.gBody.gNum, .sl (List.map GTerm.c i94_.gClause.gBody.gKids), .str i94_.gClause.gFile, .sl (List.map GIns.c i94_.gCode.gHead), .sl (List.map GIns.c i94_.gCode.gBody), .int .i64 i94_.gCode.gVars, .int .i64 i94_.gBorn, .int .i64 i94_.gDied]), []), none)] [1, 2, 6, 7] [2, 7] [] ⟨[(1, (.v (.int .i64 b90_), [])), (2, (.ptr 2 0, [])), (6, (.v (.bool j93_), [])), (7, (.ptr 7 0, []))], [(2, ([.int .i64 i89_.gClause.gHead.gKind, .str i89_.gClause.gHead.gName, .int .i64 i89_.gClause.gHead.gNum, .sl (List.map GTerm.c i89_.gClause.gHead.gKids), .int .i64 i89_.gClause.gBody.gKind, .str i89_.gClause.gBody.gName, .int .i64 i89_.gClause.gBody.gNum, .sl (List.map GTerm.c i89_.gClause.gBody.gKids), .str i89_.gClause.gFile, .sl (List.map GIns.c i89_.gCode.gHead), .sl (List.map GIns.c i89_.gCode.gBody), .int .i64 i89_.gCode.gVars, .int .i64 i89_.gBorn, .int .i64 i89_.gDied], [])), (7, ([.int .i64 i94_.gClause.gHead.gKind, .str i94_.gClause.gHead.gName, .int .i64 i94_.gClause.gHead.gNum, .sl (List.map GTerm.c i94_.gClause.gHead.gKids), .int .i64 i94_.gClause.gBody.gKind, .str i94_.gClause.gBody.gName, .int .i64 i94_.gClause.gBody.gNum, .sl (List.map GTerm.c i94_.gClause.gBody.gKids), .str i94_.gClause.gFile, .sl (List.map GIns.c i94_.gCode.gHead), .sl (List.map GIns.c i94_.gCode.gBody), .int .i64 i94_.gCode.gVars, .int .i64 i94_.gBorn, .int .i64 i94_.gDied], []))], []⟩ _ (by kernel_rfl) (.cons (claws_toKept h96) .nil) ?_
    refine Wc.seq ?_
    obtain ⟨j95_, h97, h⟩ := obind h
    refine Wc.region [((none, []), none), ((none, []), none), ((some (.bool j95_), []), none)] [2, 6, 7, 8] [2, 7] [] ⟨[(2, (.ptr 2 0, [])), (6, (.v (.bool j93_), [])), (7, (.ptr 7 0, [])), (8, (.v (.bool j95_), []))], [(2, ([.int .i64 i89_.gClause.gHead.gKind, .str i89_.gClause.gHead.gName, .int .i64 i89_.gClause.gHead.gNum, .sl (List.map GTerm.c i89_.gClause.gHead.gKids), .int .i64 i89_.gClause.gBody.gKind, .str i89_.gClause.gBody.gName, .int .i64 i89_.gClause.gBody.gNum, .sl (List.map GTerm.c i89_.gClause.gBody.gKids), .str i89_.gClause.gFile, .sl (List.map GIns.c i89_.gCode.gHead), .sl (List.map GIns.c i89_.gCode.gBody), .int .i64 i89_.gCode.gVars, .int .i64 i89_.gBorn, .int .i64 i89_.gDied], [])), (7, ([.int .i64 i94_.gClause.gHead.gKind, .str i94_.gClause.gHead.gName, .int .i64 i94_.gClause.gHead.gNum, .sl (List.map GTerm.c i94_.gClause.gHead.gKids), .int .i64 i94_.gClause.gBody.gKind, .str i94_.gClause.gBody.gName, .int .i64 i94_.gClause.gBody.gNum, .sl (List.map GTerm.c i94_.gClause.gBody.gKids), .str i94_.gClause.gFile, .sl (List.map GIns.c i94_.gCode.gHead), .sl (List.map GIns.c i94_.gCode.gBody), .int .i64 i94_.gCode.gVars, .int .i64 i94_.gBorn, .int .i64 i94_.gDied], []))], []⟩ _ (by kernel_rfl) (.cons (cimpl_AliveAt h97) .nil) ?_
    refine Wc.seq ?_
    refine Wc.seq ?_
    refine Wc.region [] [2, 7, 25] [2, 7] [] ⟨[(2, (.ptr 2 0, [])), (7, (.ptr 7 0, [])), (25, (.v (.bool (!(j95_ == j93_))), []))], [(2, ([.int .i64 i89_.gClause.gHead.gKind, .str i89_.gClause.gHead.gName, .int .i64 i89_.gClause.gHead.gNum, .sl (List.map GTerm.c i89_.gClause.gHead.gKids), .int .i64 i89_.gClause.gBody.gKind, .str i89_.gClause.gBody.gName, .int .i64 i89_.gClause.gBody.gNum, .sl (List.map GTerm.c i89_.gClause.gBody.gKids), .str i89_.gClause.gFile, .sl (List.map GIns.c i89_.gCode.gHead), .sl (List.map GIns.c i89_.gCode.gBody), .int .i64 i89_.gCode.gVars, .int .i64 i89_.gBorn, .int .i64 i89_.gDied], [])), (7, ([.int .i64 i94_.gClause.gHead.gKind, .str i94_.gClause.gHead.gName, .int .i64 i94_.gClause.gHead.gNum, .sl (List.map GTerm.c i94_.gClause.gHead.gKids), .int .i64 i94_.gClause.gBody.gKind, .str i94_.gClause.gBody.gName, .int .i64 i94_.gClause.gBody.gNum, .sl (List.map GTerm.c i94_.gClause.gBody.gKids), .str i94_.gClause.gFile, .sl (List.map GIns.c i94_.gCode.gHead), .sl (List.map GIns.c i94_.gCode.gBody), .int .i64 i94_.gCode.gVars, .int .i64 i94_.gBorn, .int .i64 i94_.gDied], []))], []⟩ _ (by kernel_rfl) .nil ?_
    rcases oif h with ⟨h98, h⟩ | ⟨h98, h⟩
    · refine Wc.condT h98 (by kernel_rfl) ?_
      refine Wc.seq ?_
      refine Wc.region [] [4] [] [] ⟨[(4, (.v (.bool false), []))], [], []⟩ _ (by kernel_rfl) .nil ?_
      refine Wc.ret ?_
      obtain rfl := Option.some.inj h
      exact ⟨.inl rfl, by kernel_rfl⟩
    · refine Wc.condF h98 (by kernel_rfl) ?_
      refine Wc.keep [2, 7] [2, 7] [] ⟨[(2, (.ptr 2 0, [])), (7, (.ptr 7 0, []))], [(2, ([.int .i64 i89_.gClause.gHead.gKind, .str i89_.gClause.gHead.gName, .int .i64 i89_.gClause.gHead.gNum, .sl (List.map GTerm.c i89_.gClause.gHead.gKids), .int .i64 i89_.gClause.gBody.gKind, .str i89_.gClause.gBody.gName, .int .i64 i89_.gClause.gBody.gNum, .sl (List.map GTerm.c i89_.gClause.gBody.gKids), .str i89_.gClause.gFile, .sl (List.map GIns.c i89_.gCode.gHead), .sl (List.map GIns.c i89_.gCode.gBody), .int .i64 i89_.gCode.gVars, .int .i64 i89_.gBorn, .int .i64 i89_.gDied], [])), (7, ([.int .i64 i94_.gClause.gHead.gKind, .str i94_.gClause.gHead.gName, .int .i64 i94_.gClause.gHead.gNum, .sl (List.map GTerm.c i94_.gClause.gHead.gKids), .int .i64 i94_.gClause.gBody.gKind, .str i94_.gClause.gBody.gName, .int .i64 i94_.gClause.gBody.gNum, .sl (List.map GTerm.c i94_.gClause.gBody.gKids), .str i94_.gClause.gFile, .sl (List.map GIns.c i94_.gCode.gHead), .sl (List.map GIns.c i94_.gCode.gBody), .int .i64 i94_.gCode.gVars, .int .i64 i94_.gBorn, .int .i64 i94_.gDied], []))], []⟩ (by kernel_rfl) ?_
      refine Wc.skip ?_
      refine Wc.seq ?_
      refine Wc.seq ?_
      obtain ⟨i96_, h99, h⟩ := obind h
      obtain ⟨j97_, h100, h⟩ := obind h
      refine Wc.draw hmix [((none, []), none), ((none, []), none), ((some (.agg [.int .i64 i96_.gClause.gHead.gKind, .str i96_.gClause.gHead.gName, .int .i64 i96_.gClause.gHead.gNum, .sl (List.map GTerm.c i96_.gClause.gHead.gKids), .int .i64 i96_.gClause.gBody.gKind, .str i96_.gClause.gBody.gName, .int .i64 i96_.gClause.gBody.gNum, .sl (List.map GTerm.c i96_.gClause.gBody.gKids), .str i96_.gClause.gFile, .sl (List.map GIns.c i96_.gCode.gHead), .sl (List.map GIns.c i96_.gCode.gBody), .int .i64 i96_.gCode.gVars, .int .i64 i96_.gBorn, .int .i64 i96_.gDied]), []), none), ((some (.bool j97_), []), none)] [30] [] [] ⟨[(30, (.v (.bool (!j97_)), []))], [], []⟩ _ (by kernel_rfl) (.cons (claws_toKept h99) (.cons (claws_eqKept h100) .nil)) ?_
      rcases oif h with ⟨h101, h⟩ | ⟨h101, h⟩
      · refine Wc.condT h101 (by kernel_rfl) ?_
        refine Wc.seq ?_
        refine Wc.region [] [4] [] [] ⟨[(4, (.v (.bool false), []))], [], []⟩ _ (by kernel_rfl) .nil ?_
        refine Wc.ret ?_
        obtain rfl := Option.some.inj h
        exact ⟨.inl rfl, by kernel_rfl⟩
      · refine Wc.condF h101 (by kernel_rfl) ?_
        refine Wc.keep [] [] [] ⟨[], [], []⟩ (by kernel_rfl) ?_
        refine Wc.skip ?_
        refine Wc.seq ?_
        refine Wc.region [] [4] [] [] ⟨[(4, (.v (.bool true), []))], [], []⟩ _ (by kernel_rfl) .nil ?_
        refine Wc.ret ?_
        obtain rfl := Option.some.inj h
        exact ⟨.inl rfl, by kernel_rfl⟩
end Go.Proofs.Ytjgagbajgdmocaa

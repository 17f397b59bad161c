/- What the functions do, part 1. -/
import Derived.Test.YtgfpmdaihkdhkaaTy
set_option linter.unusedVariables false
set_option linter.unusedSimpArgs false
namespace Go.Proofs.Ytgfpmdaihkdhkaa
open Go.RowKit Go.Bv
def plaws_szTermS_L1 (k : Nat) (rlaws_szTerm : GTerm → Int → Option Int) (rlaws_szTermS : (List GTerm) → Int → Option Int) (a4_ : List GTerm) : Nat → Int → Int → Option (Out Int Int)
  | 0, _, _ => none
  | m + 1, b6_, b7_ =>
    if (decide (b7_ < (a4_.length : Int))) = true then
      (at' a4_ b7_).bind fun c9_ =>
      (rlaws_szTerm c9_ b6_).bind fun b10_ =>
      if (decide (b10_ < 0)) = true then
        some (.ret (-1))
      else
        plaws_szTermS_L1 k rlaws_szTerm rlaws_szTermS a4_ m b10_ (wr.i64 (b7_ + 1))
    else
      some (.done b6_)
mutual
/-- laws.szTerm -/
def plaws_szTerm : Nat → GTerm → Int → Option Int
  | 0, _, _ => none
  | k + 1, c1_, b2_ =>
    if (decide ((wr.i64 (b2_ - (c1_.gName.size : Int))) < 0)) = true then
      some (-1)
    else
      (plaws_szTermS k c1_.gKids (wr.i64 (b2_ - (c1_.gName.size : Int)))).bind fun b3_ =>
      if (decide (b3_ < 0)) = true then
        some (-1)
      else
        some b3_
/-- laws.szTermS -/
def plaws_szTermS : Nat → (List GTerm) → Int → Option Int
  | 0, _, _ => none
  | k + 1, a4_, b5_ =>
    if (decide ((wr.i64 (b5_ - (a4_.length : Int))) < 0)) = true then
      some (-1)
    else
      (plaws_szTermS_L1 k (plaws_szTerm k) (plaws_szTermS k) a4_ k (wr.i64 (b5_ - (a4_.length : Int))) 0).bind fun out1 => match out1 with
      | .ret r => some r
      | .done b8_ =>
        some b8_
end
theorem all_plaws_szTerm : ∀ k : Nat, (∀ {c1_ : GTerm} {b2_ : Int} {r : Int}, plaws_szTerm k c1_ b2_ = some r → FnO Try.prog 34 [.v (.agg [.int .i64 c1_.gKind, .str c1_.gName, .int .i64 c1_.gNum, .sl (List.map GTerm.c c1_.gKids)]) [], .v (.int .i64 b2_) []] (.v (.int .i64 r) []) []) ∧
    (∀ {a4_ : List GTerm} {b5_ : Int} {r : Int}, plaws_szTermS k a4_ b5_ = some r → FnO Try.prog 87 [.v (.sl (List.map GTerm.c a4_)) [], .v (.int .i64 b5_) []] (.v (.int .i64 r) []) []) := by
  intro k
  induction k with
  | zero =>
    refine ⟨?_, ?_⟩
    · intro c1_ b2_ r h
      exact (onone (by rw [plaws_szTerm] at h; exact h)).elim
    · intro a4_ b5_ r h
      exact (onone (by rw [plaws_szTermS] at h; exact h)).elim
  | succ k ih =>
    obtain ⟨ih_plaws_szTerm, ih_plaws_szTermS⟩ := ih
    refine ⟨?_, ?_⟩
    · intro c1_ b2_ r h
      rw [plaws_szTerm] at h
      refine FnO.of Try.func34 (rfl : Try.f34.body = some _) (Nat.le_of_ble_eq_true (by kernel_rfl)) (Nat.le_of_ble_eq_true (by kernel_rfl)) ?_
      intro w0 X0 Fin pv0 pb
      refine Wc.seq ?_
      refine Wc.region [] [] [1, 2] [2] [] ⟨[(1, (.v (.int .i64 b2_), [])), (2, (.ptr 2 0, []))], [(2, .cells [.int .i64 c1_.gKind, .str c1_.gName, .int .i64 c1_.gNum, .sl (List.map GTerm.c c1_.gKids)] [])], []⟩ _ (by kernel_rfl) .nil ?_
      refine Wc.seq ?_
      refine Wc.region [] [] [1, 2] [2] [] ⟨[(1, (.v (.int .i64 (wr.i64 (b2_ - (c1_.gName.size : Int)))), [])), (2, (.ptr 2 0, []))], [(2, .cells [.int .i64 c1_.gKind, .str c1_.gName, .int .i64 c1_.gNum, .sl (List.map GTerm.c c1_.gKids)] [])], []⟩ _ (by kernel_rfl) .nil ?_
      refine Wc.seq ?_
      refine Wc.seq ?_
      refine Wc.region [] [] [1, 2, 11] [2] [] ⟨[(1, (.v (.int .i64 (wr.i64 (b2_ - (c1_.gName.size : Int)))), [])), (2, (.ptr 2 0, [])), (11, (.v (.bool (decide ((wr.i64 (b2_ - (c1_.gName.size : Int))) < 0))), []))], [(2, .cells [.int .i64 c1_.gKind, .str c1_.gName, .int .i64 c1_.gNum, .sl (List.map GTerm.c c1_.gKids)] [])], []⟩ _ (by kernel_rfl) .nil ?_
      rcases oif h with ⟨h1, h⟩ | ⟨h1, h⟩
      · refine Wc.condT h1 (by kernel_rfl) ?_
        refine Wc.seq ?_
        refine Wc.region [] [] [4] [] [] ⟨[(4, (.v (.int .i64 (-1)), []))], [], []⟩ _ (by kernel_rfl) .nil ?_
        refine Wc.ret ?_
        obtain rfl := Option.some.inj h
        exact ⟨.inl rfl, by kernel_rfl, by kernel_rfl⟩
      · refine Wc.condF h1 (by kernel_rfl) ?_
        refine Wc.fix (st' := ⟨[(1, (.v (.int .i64 (wr.i64 (b2_ - (c1_.gName.size : Int)))), [])), (2, (.ptr 2 0, []))], [(2, .cells [.int .i64 c1_.gKind, .str c1_.gName, .int .i64 c1_.gNum, .sl (List.map GTerm.c c1_.gKids)] [])], []⟩) [] [1, 2] [2] [] (by kernel_rfl) ?_
        refine Wc.skip ?_
        refine Wc.seq ?_
        obtain ⟨b3_, h2, h⟩ := obind h
        refine Wc.region [{}, {}, {}, { r := some (.v (.int .i64 b3_) []) }] [] [1] [] [] ⟨[(1, (.v (.int .i64 b3_), []))], [], []⟩ _ (by kernel_rfl) (.cons (ih_plaws_szTermS h2) .nil) ?_
        refine Wc.seq ?_
        refine Wc.seq ?_
        refine Wc.region [] [] [1, 17] [] [] ⟨[(1, (.v (.int .i64 b3_), [])), (17, (.v (.bool (decide (b3_ < 0))), []))], [], []⟩ _ (by kernel_rfl) .nil ?_
        rcases oif h with ⟨h3, h⟩ | ⟨h3, h⟩
        · refine Wc.condT h3 (by kernel_rfl) ?_
          refine Wc.seq ?_
          refine Wc.region [] [] [4] [] [] ⟨[(4, (.v (.int .i64 (-1)), []))], [], []⟩ _ (by kernel_rfl) .nil ?_
          refine Wc.ret ?_
          obtain rfl := Option.some.inj h
          exact ⟨.inl rfl, by kernel_rfl, by kernel_rfl⟩
        · refine Wc.condF h3 (by kernel_rfl) ?_
          refine Wc.fix (st' := ⟨[(1, (.v (.int .i64 b3_), []))], [], []⟩) [] [1] [] [] (by kernel_rfl) ?_
          refine Wc.skip ?_
          refine Wc.seq ?_
          refine Wc.region [] [] [4] [] [] ⟨[(4, (.v (.int .i64 b3_), []))], [], []⟩ _ (by kernel_rfl) .nil ?_
          refine Wc.ret ?_
          obtain rfl := Option.some.inj h
          exact ⟨.inl rfl, by kernel_rfl, by kernel_rfl⟩
    · intro a4_ b5_ r h
      rw [plaws_szTermS] at h
      refine FnO.of Try.func87 (rfl : Try.f87.body = some _) (Nat.le_of_ble_eq_true (by kernel_rfl)) (Nat.le_of_ble_eq_true (by kernel_rfl)) ?_
      intro w0 X0 Fin pv0 pb
      refine Wc.seq ?_
      refine Wc.region [] [] [0, 1] [] [] ⟨[(0, (.v (.sl (List.map GTerm.c a4_)), [])), (1, (.v (.int .i64 b5_), []))], [], []⟩ _ (by kernel_rfl) .nil ?_
      refine Wc.seq ?_
      refine Wc.region [{}, {}, { v := some (.int .i64 (a4_.length : Int)) }] [] [0, 1] [] [] ⟨[(0, (.v (.sl (List.map GTerm.c a4_)), [])), (1, (.v (.int .i64 (wr.i64 (b5_ - (a4_.length : Int)))), []))], [], []⟩ _ (by kernel_rfl) (.cons (len_obl GTerm.c a4_) .nil) ?_
      refine Wc.seq ?_
      refine Wc.seq ?_
      refine Wc.region [] [] [0, 1, 11] [] [] ⟨[(0, (.v (.sl (List.map GTerm.c a4_)), [])), (1, (.v (.int .i64 (wr.i64 (b5_ - (a4_.length : Int)))), [])), (11, (.v (.bool (decide ((wr.i64 (b5_ - (a4_.length : Int))) < 0))), []))], [], []⟩ _ (by kernel_rfl) .nil ?_
      rcases oif h with ⟨h4, h⟩ | ⟨h4, h⟩
      · refine Wc.condT h4 (by kernel_rfl) ?_
        refine Wc.seq ?_
        refine Wc.region [] [] [4] [] [] ⟨[(4, (.v (.int .i64 (-1)), []))], [], []⟩ _ (by kernel_rfl) .nil ?_
        refine Wc.ret ?_
        obtain rfl := Option.some.inj h
        exact ⟨.inl rfl, by kernel_rfl, by kernel_rfl⟩
      · refine Wc.condF h4 (by kernel_rfl) ?_
        refine Wc.fix (st' := ⟨[(0, (.v (.sl (List.map GTerm.c a4_)), [])), (1, (.v (.int .i64 (wr.i64 (b5_ - (a4_.length : Int)))), []))], [], []⟩) [] [0, 1] [] [] (by kernel_rfl) ?_
        refine Wc.skip ?_
        refine Wc.seq ?_
        refine Wc.seq ?_
        refine Wc.region [] [] [0, 1, 5] [] [] ⟨[(0, (.v (.sl (List.map GTerm.c a4_)), [])), (1, (.v (.int .i64 (wr.i64 (b5_ - (a4_.length : Int)))), [])), (5, (.v (.int .i64 0), []))], [], []⟩ _ (by kernel_rfl) .nil ?_
        obtain ⟨out1, h5, h⟩ := obind h
        refine Wc.lastJ (fun st => ∃ (b8_ : Int), out1 = .done b8_ ∧ st = ⟨[(1, (.v (.int .i64 b8_), []))], [], []⟩) ?_ ?_
        · refine Wc.block ?_
          refine Wc.loop (fun m st => ∃ (b6_ : Int) (b7_ : Int), st = ⟨[(0, (.v (.sl (List.map GTerm.c a4_)), [])), (1, (.v (.int .i64 b6_), [])), (5, (.v (.int .i64 b7_), []))], [], []⟩ ∧ plaws_szTermS_L1 k (plaws_szTerm k) (plaws_szTermS k) a4_ m b6_ b7_ = some out1) ?_ k ⟨_, _, rfl, h5⟩
          rintro m st ⟨b6_, b7_, rfl, h5⟩
          cases m with
          | zero => exact (onone h5).elim
          | succ m =>
            refine Wc.seq ?_
            refine Wc.seq ?_
            refine Wc.region [{}, {}, { v := some (.int .i64 (a4_.length : Int)) }] [] [0, 1, 5, 15] [] [] ⟨[(0, (.v (.sl (List.map GTerm.c a4_)), [])), (1, (.v (.int .i64 b6_), [])), (5, (.v (.int .i64 b7_), [])), (15, (.v (.bool (decide (b7_ < (a4_.length : Int)))), []))], [], []⟩ _ (by kernel_rfl) (.cons (len_obl GTerm.c a4_) .nil) ?_
            rcases oif h5 with ⟨h6, h5⟩ | ⟨h6, h5⟩
            · refine Wc.condT h6 (by kernel_rfl) ?_
              refine Wc.fix (st' := ⟨[(0, (.v (.sl (List.map GTerm.c a4_)), [])), (1, (.v (.int .i64 b6_), [])), (5, (.v (.int .i64 b7_), []))], [], []⟩) [] [0, 1, 5] [] [] (by kernel_rfl) ?_
              refine Wc.skip ?_
              refine Wc.seq ?_
              refine Wc.block ?_
              refine Wc.seq ?_
              obtain ⟨c9_, h7, h5⟩ := obind h5
              obtain ⟨b10_, h8, h5⟩ := obind h5
              refine Wc.region [{}, {}, { v := some (.vptr [.int .i64 c9_.gKind, .str c9_.gName, .int .i64 c9_.gNum, .sl (List.map GTerm.c c9_.gKids)]) }, {}, {}, { r := some (.v (.int .i64 b10_) []) }] [] [0, 1, 5] [] [] ⟨[(0, (.v (.sl (List.map GTerm.c a4_)), [])), (1, (.v (.int .i64 b10_), [])), (5, (.v (.int .i64 b7_), []))], [], []⟩ _ (by kernel_rfl) (.cons (at_obl (c := GTerm.c) (GTerm.c_eq c9_) GTerm.c_len h7) (.cons (len_ok 4 [.int .i64 c9_.gKind, .str c9_.gName, .int .i64 c9_.gNum, .sl (List.map GTerm.c c9_.gKids)]) (.cons (ih_plaws_szTerm h8) .nil))) ?_
              refine Wc.seq ?_
              refine Wc.region [] [] [0, 1, 5, 25] [] [] ⟨[(0, (.v (.sl (List.map GTerm.c a4_)), [])), (1, (.v (.int .i64 b10_), [])), (5, (.v (.int .i64 b7_), [])), (25, (.v (.bool (decide (b10_ < 0))), []))], [], []⟩ _ (by kernel_rfl) .nil ?_
              rcases oif h5 with ⟨h9, h5⟩ | ⟨h9, h5⟩
              · refine Wc.condT h9 (by kernel_rfl) ?_
                refine Wc.seq ?_
                refine Wc.region [] [] [4] [] [] ⟨[(4, (.v (.int .i64 (-1)), []))], [], []⟩ _ (by kernel_rfl) .nil ?_
                refine Wc.ret ?_
                obtain rfl := Option.some.inj h5
                obtain rfl := Option.some.inj h
                exact ⟨.inl rfl, by kernel_rfl, by kernel_rfl⟩
              · refine Wc.condF h9 (by kernel_rfl) ?_
                refine Wc.fix (st' := ⟨[(0, (.v (.sl (List.map GTerm.c a4_)), [])), (1, (.v (.int .i64 b10_), [])), (5, (.v (.int .i64 b7_), []))], [], []⟩) [] [0, 1, 5] [] [] (by kernel_rfl) ?_
                refine Wc.skip ?_
                refine Wc.region [] [] [0, 1, 5] [] [] ⟨[(0, (.v (.sl (List.map GTerm.c a4_)), [])), (1, (.v (.int .i64 b10_), [])), (5, (.v (.int .i64 (wr.i64 (b7_ + 1))), []))], [], []⟩ _ (by kernel_rfl) .nil ?_
                exact ⟨_, Nat.lt_succ_self _, _, _, rfl, h5⟩
            · refine Wc.condF h6 (by kernel_rfl) ?_
              refine Wc.fix (st' := ⟨[(1, (.v (.int .i64 b6_), []))], [], []⟩) [] [1] [] [] (by kernel_rfl) ?_
              refine Wc.exit ?_
              obtain rfl := Option.some.inj h5
              exact ⟨_, rfl, rfl⟩
        · rintro st ⟨b8_, rfl, rfl⟩
          refine Wc.seq ?_
          refine Wc.region [] [] [4] [] [] ⟨[(4, (.v (.int .i64 b8_), []))], [], []⟩ _ (by kernel_rfl) .nil ?_
          refine Wc.ret ?_
          obtain rfl := Option.some.inj h
          exact ⟨.inl rfl, by kernel_rfl, by kernel_rfl⟩
theorem claws_szTerm {k : Nat} {c1_ : GTerm} {b2_ : Int} {r : Int} (h : plaws_szTerm k c1_ b2_ = some r) : FnO Try.prog 34 [.v (.agg [.int .i64 c1_.gKind, .str c1_.gName, .int .i64 c1_.gNum, .sl (List.map GTerm.c c1_.gKids)]) [], .v (.int .i64 b2_) []] (.v (.int .i64 r) []) [] := (all_plaws_szTerm k).1 h
theorem claws_szTermS {k : Nat} {a4_ : List GTerm} {b5_ : Int} {r : Int} (h : plaws_szTermS k a4_ b5_ = some r) : FnO Try.prog 87 [.v (.sl (List.map GTerm.c a4_)) [], .v (.int .i64 b5_) []] (.v (.int .i64 r) []) [] := (all_plaws_szTerm k).2 h

/-- laws.szClause -/
def plaws_szClause (k : Nat) (d11_ : GClause) (b12_ : Int) : Option Int :=
  (plaws_szTerm k d11_.gHead b12_).bind fun b13_ =>
  if (decide (b13_ < 0)) = true then
    some (-1)
  else
    (plaws_szTerm k d11_.gBody b13_).bind fun b14_ =>
    if (decide (b14_ < 0)) = true then
      some (-1)
    else
      if (decide ((wr.i64 (b14_ - (d11_.gFile.size : Int))) < 0)) = true then
        some (-1)
      else
        some (wr.i64 (b14_ - (d11_.gFile.size : Int)))
theorem claws_szClause {k : Nat} {d11_ : GClause} {b12_ : Int} {r : Int} (h : plaws_szClause k d11_ b12_ = some r) : FnO Try.prog 25 [.v (.agg [.int .i64 d11_.gHead.gKind, .str d11_.gHead.gName, .int .i64 d11_.gHead.gNum, .sl (List.map GTerm.c d11_.gHead.gKids), .int .i64 d11_.gBody.gKind, .str d11_.gBody.gName, .int .i64 d11_.gBody.gNum, .sl (List.map GTerm.c d11_.gBody.gKids), .str d11_.gFile]) [], .v (.int .i64 b12_) []] (.v (.int .i64 r) []) [] := by
  refine FnO.of Try.func25 (rfl : Try.f25.body = some _) (Nat.le_of_ble_eq_true (by kernel_rfl)) (Nat.le_of_ble_eq_true (by kernel_rfl)) ?_
  intro w0 X0 Fin pv0 pb
  unfold plaws_szClause at h
  refine Wc.seq ?_
  refine Wc.region [] [] [1, 2] [2] [] ⟨[(1, (.v (.int .i64 b12_), [])), (2, (.ptr 2 0, []))], [(2, .cells [.int .i64 d11_.gHead.gKind, .str d11_.gHead.gName, .int .i64 d11_.gHead.gNum, .sl (List.map GTerm.c d11_.gHead.gKids), .int .i64 d11_.gBody.gKind, .str d11_.gBody.gName, .int .i64 d11_.gBody.gNum, .sl (List.map GTerm.c d11_.gBody.gKids), .str d11_.gFile] [])], []⟩ _ (by kernel_rfl) .nil ?_
  refine Wc.seq ?_
  obtain ⟨b13_, h10, h⟩ := obind h
  refine Wc.region [{}, {}, {}, { r := some (.v (.int .i64 b13_) []) }] [] [1, 2] [2] [] ⟨[(1, (.v (.int .i64 b13_), [])), (2, (.ptr 2 0, []))], [(2, .cells [.int .i64 d11_.gHead.gKind, .str d11_.gHead.gName, .int .i64 d11_.gHead.gNum, .sl (List.map GTerm.c d11_.gHead.gKids), .int .i64 d11_.gBody.gKind, .str d11_.gBody.gName, .int .i64 d11_.gBody.gNum, .sl (List.map GTerm.c d11_.gBody.gKids), .str d11_.gFile] [])], []⟩ _ (by kernel_rfl) (.cons (claws_szTerm h10) .nil) ?_
  refine Wc.seq ?_
  refine Wc.seq ?_
  refine Wc.region [] [] [1, 2, 10] [2] [] ⟨[(1, (.v (.int .i64 b13_), [])), (2, (.ptr 2 0, [])), (10, (.v (.bool (decide (b13_ < 0))), []))], [(2, .cells [.int .i64 d11_.gHead.gKind, .str d11_.gHead.gName, .int .i64 d11_.gHead.gNum, .sl (List.map GTerm.c d11_.gHead.gKids), .int .i64 d11_.gBody.gKind, .str d11_.gBody.gName, .int .i64 d11_.gBody.gNum, .sl (List.map GTerm.c d11_.gBody.gKids), .str d11_.gFile] [])], []⟩ _ (by kernel_rfl) .nil ?_
  rcases oif h with ⟨h11, h⟩ | ⟨h11, h⟩
  · refine Wc.condT h11 (by kernel_rfl) ?_
    refine Wc.seq ?_
    refine Wc.region [] [] [4] [] [] ⟨[(4, (.v (.int .i64 (-1)), []))], [], []⟩ _ (by kernel_rfl) .nil ?_
    refine Wc.ret ?_
    obtain rfl := Option.some.inj h
    exact ⟨.inl rfl, by kernel_rfl, by kernel_rfl⟩
  · refine Wc.condF h11 (by kernel_rfl) ?_
    refine Wc.fix (st' := ⟨[(1, (.v (.int .i64 b13_), [])), (2, (.ptr 2 0, []))], [(2, .cells [.int .i64 d11_.gHead.gKind, .str d11_.gHead.gName, .int .i64 d11_.gHead.gNum, .sl (List.map GTerm.c d11_.gHead.gKids), .int .i64 d11_.gBody.gKind, .str d11_.gBody.gName, .int .i64 d11_.gBody.gNum, .sl (List.map GTerm.c d11_.gBody.gKids), .str d11_.gFile] [])], []⟩) [] [1, 2] [2] [] (by kernel_rfl) ?_
    refine Wc.skip ?_
    refine Wc.seq ?_
    obtain ⟨b14_, h12, h⟩ := obind h
    refine Wc.region [{}, {}, {}, { r := some (.v (.int .i64 b14_) []) }] [] [1, 2] [2] [] ⟨[(1, (.v (.int .i64 b14_), [])), (2, (.ptr 2 0, []))], [(2, .cells [.int .i64 d11_.gHead.gKind, .str d11_.gHead.gName, .int .i64 d11_.gHead.gNum, .sl (List.map GTerm.c d11_.gHead.gKids), .int .i64 d11_.gBody.gKind, .str d11_.gBody.gName, .int .i64 d11_.gBody.gNum, .sl (List.map GTerm.c d11_.gBody.gKids), .str d11_.gFile] [])], []⟩ _ (by kernel_rfl) (.cons (claws_szTerm h12) .nil) ?_
    refine Wc.seq ?_
    refine Wc.seq ?_
    refine Wc.region [] [] [1, 2, 16] [2] [] ⟨[(1, (.v (.int .i64 b14_), [])), (2, (.ptr 2 0, [])), (16, (.v (.bool (decide (b14_ < 0))), []))], [(2, .cells [.int .i64 d11_.gHead.gKind, .str d11_.gHead.gName, .int .i64 d11_.gHead.gNum, .sl (List.map GTerm.c d11_.gHead.gKids), .int .i64 d11_.gBody.gKind, .str d11_.gBody.gName, .int .i64 d11_.gBody.gNum, .sl (List.map GTerm.c d11_.gBody.gKids), .str d11_.gFile] [])], []⟩ _ (by kernel_rfl) .nil ?_
    rcases oif h with ⟨h13, h⟩ | ⟨h13, h⟩
    · refine Wc.condT h13 (by kernel_rfl) ?_
      refine Wc.seq ?_
      refine Wc.region [] [] [4] [] [] ⟨[(4, (.v (.int .i64 (-1)), []))], [], []⟩ _ (by kernel_rfl) .nil ?_
      refine Wc.ret ?_
      obtain rfl := Option.some.inj h
      exact ⟨.inl rfl, by kernel_rfl, by kernel_rfl⟩
    · refine Wc.condF h13 (by kernel_rfl) ?_
      refine Wc.fix (st' := ⟨[(1, (.v (.int .i64 b14_), [])), (2, (.ptr 2 0, []))], [(2, .cells [.int .i64 d11_.gHead.gKind, .str d11_.gHead.gName, .int .i64 d11_.gHead.gNum, .sl (List.map GTerm.c d11_.gHead.gKids), .int .i64 d11_.gBody.gKind, .str d11_.gBody.gName, .int .i64 d11_.gBody.gNum, .sl (List.map GTerm.c d11_.gBody.gKids), .str d11_.gFile] [])], []⟩) [] [1, 2] [2] [] (by kernel_rfl) ?_
      refine Wc.skip ?_
      refine Wc.seq ?_
      refine Wc.region [] [] [1] [] [] ⟨[(1, (.v (.int .i64 (wr.i64 (b14_ - (d11_.gFile.size : Int)))), []))], [], []⟩ _ (by kernel_rfl) .nil ?_
      refine Wc.seq ?_
      refine Wc.seq ?_
      refine Wc.region [] [] [1, 23] [] [] ⟨[(1, (.v (.int .i64 (wr.i64 (b14_ - (d11_.gFile.size : Int)))), [])), (23, (.v (.bool (decide ((wr.i64 (b14_ - (d11_.gFile.size : Int))) < 0))), []))], [], []⟩ _ (by kernel_rfl) .nil ?_
      rcases oif h with ⟨h14, h⟩ | ⟨h14, h⟩
      · refine Wc.condT h14 (by kernel_rfl) ?_
        refine Wc.seq ?_
        refine Wc.region [] [] [4] [] [] ⟨[(4, (.v (.int .i64 (-1)), []))], [], []⟩ _ (by kernel_rfl) .nil ?_
        refine Wc.ret ?_
        obtain rfl := Option.some.inj h
        exact ⟨.inl rfl, by kernel_rfl, by kernel_rfl⟩
      · refine Wc.condF h14 (by kernel_rfl) ?_
        refine Wc.fix (st' := ⟨[(1, (.v (.int .i64 (wr.i64 (b14_ - (d11_.gFile.size : Int)))), []))], [], []⟩) [] [1] [] [] (by kernel_rfl) ?_
        refine Wc.skip ?_
        refine Wc.seq ?_
        refine Wc.region [] [] [4] [] [] ⟨[(4, (.v (.int .i64 (wr.i64 (b14_ - (d11_.gFile.size : Int)))), []))], [], []⟩ _ (by kernel_rfl) .nil ?_
        refine Wc.ret ?_
        obtain rfl := Option.some.inj h
        exact ⟨.inl rfl, by kernel_rfl, by kernel_rfl⟩

def pspec_l03Count_L1 (k : Nat) (rspec_l03Count : GTerm → Int → Option Int) (c15_ : GTerm) : Nat → Int → Int → Option (Out Int Int)
  | 0, _, _ => none
  | m + 1, b17_, b18_ =>
    if (decide (b18_ < (c15_.gKids.length : Int))) = true then
      if (decide (b17_ ≥ 0)) = true then
        (at' c15_.gKids b18_).bind fun c20_ =>
        (rspec_l03Count c20_ b17_).bind fun b21_ =>
        pspec_l03Count_L1 k rspec_l03Count c15_ m b21_ (wr.i64 (b18_ + 1))
      else
        some (.done b17_)
    else
      some (.done b17_)
mutual
/-- spec.l03Count -/
def pspec_l03Count : Nat → GTerm → Int → Option Int
  | 0, _, _ => none
  | k + 1, c15_, b16_ =>
    (pspec_l03Count_L1 k (pspec_l03Count k) c15_ k (wr.i64 (b16_ - 1)) 0).bind fun out1 => match out1 with
    | .ret r => some r
    | .done b19_ =>
      some b19_
end
theorem all_pspec_l03Count : ∀ k : Nat, (∀ {c15_ : GTerm} {b16_ : Int} {r : Int}, pspec_l03Count k c15_ b16_ = some r → FnO Try.prog 119 [.v (.agg [.int .i64 c15_.gKind, .str c15_.gName, .int .i64 c15_.gNum, .sl (List.map GTerm.c c15_.gKids)]) [], .v (.int .i64 b16_) []] (.v (.int .i64 r) []) []) := by
  intro k
  induction k with
  | zero =>
    · intro c15_ b16_ r h
      exact (onone (by rw [pspec_l03Count] at h; exact h)).elim
  | succ k ih =>
    have ih_pspec_l03Count := @ih
    · intro c15_ b16_ r h
      rw [pspec_l03Count] at h
      refine FnO.of Try.func119 (rfl : Try.f119.body = some _) (Nat.le_of_ble_eq_true (by kernel_rfl)) (Nat.le_of_ble_eq_true (by kernel_rfl)) ?_
      intro w0 X0 Fin pv0 pb
      refine Wc.seq ?_
      refine Wc.region [] [] [1, 2] [2] [] ⟨[(1, (.v (.int .i64 b16_), [])), (2, (.ptr 2 0, []))], [(2, .cells [.int .i64 c15_.gKind, .str c15_.gName, .int .i64 c15_.gNum, .sl (List.map GTerm.c c15_.gKids)] [])], []⟩ _ (by kernel_rfl) .nil ?_
      refine Wc.seq ?_
      refine Wc.region [] [] [1, 2] [2] [] ⟨[(1, (.v (.int .i64 (wr.i64 (b16_ - 1))), [])), (2, (.ptr 2 0, []))], [(2, .cells [.int .i64 c15_.gKind, .str c15_.gName, .int .i64 c15_.gNum, .sl (List.map GTerm.c c15_.gKids)] [])], []⟩ _ (by kernel_rfl) .nil ?_
      refine Wc.seq ?_
      refine Wc.seq ?_
      refine Wc.region [] [] [1, 2, 5] [2] [] ⟨[(1, (.v (.int .i64 (wr.i64 (b16_ - 1))), [])), (2, (.ptr 2 0, [])), (5, (.v (.int .i64 0), []))], [(2, .cells [.int .i64 c15_.gKind, .str c15_.gName, .int .i64 c15_.gNum, .sl (List.map GTerm.c c15_.gKids)] [])], []⟩ _ (by kernel_rfl) .nil ?_
      obtain ⟨out1, h15, h⟩ := obind h
      refine Wc.lastJ (fun st => ∃ (b19_ : Int), out1 = .done b19_ ∧ st = ⟨[(1, (.v (.int .i64 b19_), []))], [], []⟩) ?_ ?_
      · refine Wc.block ?_
        refine Wc.loop (fun m st => ∃ (b17_ : Int) (b18_ : Int), st = ⟨[(1, (.v (.int .i64 b17_), [])), (2, (.ptr 2 0, [])), (5, (.v (.int .i64 b18_), []))], [(2, .cells [.int .i64 c15_.gKind, .str c15_.gName, .int .i64 c15_.gNum, .sl (List.map GTerm.c c15_.gKids)] [])], []⟩ ∧ pspec_l03Count_L1 k (pspec_l03Count k) c15_ m b17_ b18_ = some out1) ?_ k ⟨_, _, rfl, h15⟩
        rintro m st ⟨b17_, b18_, rfl, h15⟩
        cases m with
        | zero => exact (onone h15).elim
        | succ m =>
          refine Wc.seq ?_
          refine Wc.seq ?_
          rcases oif h15 with ⟨h16, h15⟩ | ⟨h16, h15⟩
          · refine Wc.region [{}, {}, {}, { v := some (.int .i64 (c15_.gKids.length : Int)) }, {}, { re := some (.bool true) }] [] [1, 2, 5, 16] [2] [] ⟨[(1, (.v (.int .i64 b17_), [])), (2, (.ptr 2 0, [])), (5, (.v (.int .i64 b18_), [])), (16, (.v (.bool (decide (b17_ ≥ 0))), []))], [(2, .cells [.int .i64 c15_.gKind, .str c15_.gName, .int .i64 c15_.gNum, .sl (List.map GTerm.c c15_.gKids)] [])], []⟩ _ (by kernel_rfl) (.cons (len_obl GTerm.c c15_.gKids) (.cons (congrArg AV.bool h16) .nil)) ?_
            rcases oif h15 with ⟨h17, h15⟩ | ⟨h17, h15⟩
            · refine Wc.condT h17 (by kernel_rfl) ?_
              refine Wc.fix (st' := ⟨[(1, (.v (.int .i64 b17_), [])), (2, (.ptr 2 0, [])), (5, (.v (.int .i64 b18_), []))], [(2, .cells [.int .i64 c15_.gKind, .str c15_.gName, .int .i64 c15_.gNum, .sl (List.map GTerm.c c15_.gKids)] [])], []⟩) [] [1, 2, 5] [2] [] (by kernel_rfl) ?_
              refine Wc.skip ?_
              refine Wc.seq ?_
              refine Wc.block ?_
              obtain ⟨c20_, h18, h15⟩ := obind h15
              obtain ⟨b21_, h19, h15⟩ := obind h15
              refine Wc.region [{}, {}, {}, { v := some (.vptr [.int .i64 c20_.gKind, .str c20_.gName, .int .i64 c20_.gNum, .sl (List.map GTerm.c c20_.gKids)]) }, {}, {}, { r := some (.v (.int .i64 b21_) []) }] [] [1, 2, 5] [2] [] ⟨[(1, (.v (.int .i64 b21_), [])), (2, (.ptr 2 0, [])), (5, (.v (.int .i64 b18_), []))], [(2, .cells [.int .i64 c15_.gKind, .str c15_.gName, .int .i64 c15_.gNum, .sl (List.map GTerm.c c15_.gKids)] [])], []⟩ _ (by kernel_rfl) (.cons (at_obl (c := GTerm.c) (GTerm.c_eq c20_) GTerm.c_len h18) (.cons (len_ok 4 [.int .i64 c20_.gKind, .str c20_.gName, .int .i64 c20_.gNum, .sl (List.map GTerm.c c20_.gKids)]) (.cons (ih_pspec_l03Count h19) .nil))) ?_
              refine Wc.region [] [] [1, 2, 5] [2] [] ⟨[(1, (.v (.int .i64 b21_), [])), (2, (.ptr 2 0, [])), (5, (.v (.int .i64 (wr.i64 (b18_ + 1))), []))], [(2, .cells [.int .i64 c15_.gKind, .str c15_.gName, .int .i64 c15_.gNum, .sl (List.map GTerm.c c15_.gKids)] [])], []⟩ _ (by kernel_rfl) .nil ?_
              exact ⟨_, Nat.lt_succ_self _, _, _, rfl, h15⟩
            · refine Wc.condF h17 (by kernel_rfl) ?_
              refine Wc.fix (st' := ⟨[(1, (.v (.int .i64 b17_), []))], [], []⟩) [] [1] [] [] (by kernel_rfl) ?_
              refine Wc.exit ?_
              obtain rfl := Option.some.inj h15
              exact ⟨_, rfl, rfl⟩
          · refine Wc.region [{}, {}, {}, { v := some (.int .i64 (c15_.gKids.length : Int)) }, {}, { re := some (.bool false) }] [] [1, 2, 5, 16] [2] [] ⟨[(1, (.v (.int .i64 b17_), [])), (2, (.ptr 2 0, [])), (5, (.v (.int .i64 b18_), [])), (16, (.v (.bool false), []))], [(2, .cells [.int .i64 c15_.gKind, .str c15_.gName, .int .i64 c15_.gNum, .sl (List.map GTerm.c c15_.gKids)] [])], []⟩ _ (by kernel_rfl) (.cons (len_obl GTerm.c c15_.gKids) (.cons (congrArg AV.bool h16) .nil)) ?_
            refine Wc.condF rfl (by kernel_rfl) ?_
            refine Wc.fix (st' := ⟨[(1, (.v (.int .i64 b17_), []))], [], []⟩) [] [1] [] [] (by kernel_rfl) ?_
            refine Wc.exit ?_
            obtain rfl := Option.some.inj h15
            exact ⟨_, rfl, rfl⟩
      · rintro st ⟨b19_, rfl, rfl⟩
        refine Wc.seq ?_
        refine Wc.region [] [] [4] [] [] ⟨[(4, (.v (.int .i64 b19_), []))], [], []⟩ _ (by kernel_rfl) .nil ?_
        refine Wc.ret ?_
        obtain rfl := Option.some.inj h
        exact ⟨.inl rfl, by kernel_rfl, by kernel_rfl⟩
theorem cspec_l03Count {k : Nat} {c15_ : GTerm} {b16_ : Int} {r : Int} (h : pspec_l03Count k c15_ b16_ = some r) : FnO Try.prog 119 [.v (.agg [.int .i64 c15_.gKind, .str c15_.gName, .int .i64 c15_.gNum, .sl (List.map GTerm.c c15_.gKids)]) [], .v (.int .i64 b16_) []] (.v (.int .i64 r) []) [] := (all_pspec_l03Count k) h

/-- spec.l01In -/
def pspec_l01In (k : Nat) (b22_ : Int) (b23_ : Int) (b24_ : Int) : Option Bool :=
  if (decide (b22_ ≥ b23_)) = true then
    some (decide (b22_ ≤ b24_))
  else
    some false
theorem cspec_l01In {k : Nat} {b22_ : Int} {b23_ : Int} {b24_ : Int} {r : Bool} (h : pspec_l01In k b22_ b23_ b24_ = some r) : FnO Try.prog 110 [.v (.int .i64 b22_) [], .v (.int .i64 b23_) [], .v (.int .i64 b24_) []] (.v (.bool r) []) [] := by
  refine FnO.of Try.func110 (rfl : Try.f110.body = some _) (Nat.le_of_ble_eq_true (by kernel_rfl)) (Nat.le_of_ble_eq_true (by kernel_rfl)) ?_
  intro w0 X0 Fin pv0 pb
  unfold pspec_l01In at h
  refine Wc.seq ?_
  refine Wc.region [] [] [0, 1, 2] [] [] ⟨[(0, (.v (.int .i64 b22_), [])), (1, (.v (.int .i64 b23_), [])), (2, (.v (.int .i64 b24_), []))], [], []⟩ _ (by kernel_rfl) .nil ?_
  refine Wc.seq ?_
  rcases oif h with ⟨h20, h⟩ | ⟨h20, h⟩
  · refine Wc.region [{}, {}, {}, { re := some (.bool true) }] [] [6] [] [] ⟨[(6, (.v (.bool (decide (b22_ ≤ b24_))), []))], [], []⟩ _ (by kernel_rfl) (.cons (congrArg AV.bool h20) .nil) ?_
    refine Wc.ret ?_
    obtain rfl := Option.some.inj h
    exact ⟨.inl rfl, by kernel_rfl, by kernel_rfl⟩
  · refine Wc.region [{}, {}, {}, { re := some (.bool false) }] [] [6] [] [] ⟨[(6, (.v (.bool false), []))], [], []⟩ _ (by kernel_rfl) (.cons (congrArg AV.bool h20) .nil) ?_
    refine Wc.ret ?_
    obtain rfl := Option.some.inj h
    exact ⟨.inl rfl, by kernel_rfl, by kernel_rfl⟩

def pspec_l03Name_L1 (k : Nat) (e25_ : ByteArray) : Nat → Int → Option (Out Bool Unit)
  | 0, _ => none
  | m + 1, b26_ =>
    if (decide (b26_ < (e25_.size : Int))) = true then
      if 0 ≤ b26_ ∧ (b26_).toNat < e25_.size then
        if (decide ((bt e25_ b26_) < 33)) = true then
          some (.ret false)
        else
          if 0 ≤ b26_ ∧ (b26_).toNat < e25_.size then
            if (decide ((bt e25_ b26_) > 126)) = true then
              some (.ret false)
            else
              if 0 ≤ b26_ ∧ (b26_).toNat < e25_.size then
                if ((bt e25_ b26_) == 39) = true then
                  some (.ret false)
                else
                  if 0 ≤ b26_ ∧ (b26_).toNat < e25_.size then
                    if ((bt e25_ b26_) == 34) = true then
                      some (.ret false)
                    else
                      pspec_l03Name_L1 k e25_ m (wr.i64 (b26_ + 1))
                  else none
              else none
          else none
      else none
    else
      some (.done ())
/-- spec.l03Name -/
def pspec_l03Name (k : Nat) (e25_ : ByteArray) : Option Bool :=
  (pspec_l03Name_L1 k e25_ k 0).bind fun out1 => match out1 with
  | .ret r => some r
  | .done () =>
    (pspec_l01In k (e25_.size : Int) 1 20).bind fun f27_ =>
    some f27_
theorem cspec_l03Name {k : Nat} {e25_ : ByteArray} {r : Bool} (h : pspec_l03Name k e25_ = some r) : FnO Try.prog 156 [.v (.str e25_) []] (.v (.bool r) []) [] := by
  refine FnO.of Try.func156 (rfl : Try.f156.body = some _) (Nat.le_of_ble_eq_true (by kernel_rfl)) (Nat.le_of_ble_eq_true (by kernel_rfl)) ?_
  intro w0 X0 Fin pv0 pb
  unfold pspec_l03Name at h
  refine Wc.seq ?_
  refine Wc.region [] [] [0] [] [] ⟨[(0, (.v (.str e25_), []))], [], []⟩ _ (by kernel_rfl) .nil ?_
  refine Wc.seq ?_
  refine Wc.seq ?_
  refine Wc.region [] [] [0, 3] [] [] ⟨[(0, (.v (.str e25_), [])), (3, (.v (.int .i64 0), []))], [], []⟩ _ (by kernel_rfl) .nil ?_
  obtain ⟨out1, h21, h⟩ := obind h
  refine Wc.lastJ (fun st => out1 = .done () ∧ st = ⟨[(0, (.v (.str e25_), []))], [], []⟩) ?_ ?_
  · refine Wc.block ?_
    refine Wc.loop (fun m st => ∃ (b26_ : Int), st = ⟨[(0, (.v (.str e25_), [])), (3, (.v (.int .i64 b26_), []))], [], []⟩ ∧ pspec_l03Name_L1 k e25_ m b26_ = some out1) ?_ k ⟨_, rfl, h21⟩
    rintro m st ⟨b26_, rfl, h21⟩
    cases m with
    | zero => exact (onone h21).elim
    | succ m =>
      refine Wc.seq ?_
      refine Wc.seq ?_
      refine Wc.region [] [] [0, 3, 7] [] [] ⟨[(0, (.v (.str e25_), [])), (3, (.v (.int .i64 b26_), [])), (7, (.v (.bool (decide (b26_ < (e25_.size : Int)))), []))], [], []⟩ _ (by kernel_rfl) .nil ?_
      rcases oif h21 with ⟨h22, h21⟩ | ⟨h22, h21⟩
      · refine Wc.condT h22 (by kernel_rfl) ?_
        refine Wc.fix (st' := ⟨[(0, (.v (.str e25_), [])), (3, (.v (.int .i64 b26_), []))], [], []⟩) [] [0, 3] [] [] (by kernel_rfl) ?_
        refine Wc.skip ?_
        refine Wc.seq ?_
        refine Wc.block ?_
        refine Wc.seq ?_
        obtain ⟨h23, h21⟩ := oguard h21
        rcases oif h21 with ⟨h24, h21⟩ | ⟨h24, h21⟩
        · refine Wc.region [{}, {}, {}, {}, { re := some (.bool true) }] [] [0, 3, 31] [] [] ⟨[(0, (.v (.str e25_), [])), (3, (.v (.int .i64 b26_), [])), (31, (.v (.bool true), []))], [], []⟩ _ (by kernel_rfl) (.cons h23 (.cons (congrArg AV.bool h24) .nil)) ?_
          refine Wc.condT rfl (by kernel_rfl) ?_
          refine Wc.seq ?_
          refine Wc.region [] [] [2] [] [] ⟨[(2, (.v (.bool false), []))], [], []⟩ _ (by kernel_rfl) .nil ?_
          refine Wc.ret ?_
          obtain rfl := Option.some.inj h21
          obtain rfl := Option.some.inj h
          exact ⟨.inl rfl, by kernel_rfl, by kernel_rfl⟩
        · obtain ⟨h25, h21⟩ := oguard h21
          rcases oif h21 with ⟨h26, h21⟩ | ⟨h26, h21⟩
          · refine Wc.region [{}, {}, {}, {}, { re := some (.bool false) }, {}, {}, {}, {}, {}, { re := some (.bool true) }] [] [0, 3, 31] [] [] ⟨[(0, (.v (.str e25_), [])), (3, (.v (.int .i64 b26_), [])), (31, (.v (.bool true), []))], [], []⟩ _ (by kernel_rfl) (.cons h23 (.cons (congrArg AV.bool h24) (.cons h25 (.cons (congrArg AV.bool h26) .nil)))) ?_
            refine Wc.condT rfl (by kernel_rfl) ?_
            refine Wc.seq ?_
            refine Wc.region [] [] [2] [] [] ⟨[(2, (.v (.bool false), []))], [], []⟩ _ (by kernel_rfl) .nil ?_
            refine Wc.ret ?_
            obtain rfl := Option.some.inj h21
            obtain rfl := Option.some.inj h
            exact ⟨.inl rfl, by kernel_rfl, by kernel_rfl⟩
          · obtain ⟨h27, h21⟩ := oguard h21
            rcases oif h21 with ⟨h28, h21⟩ | ⟨h28, h21⟩
            · refine Wc.region [{}, {}, {}, {}, { re := some (.bool false) }, {}, {}, {}, {}, {}, { re := some (.bool false) }, {}, {}, {}, {}, {}, { re := some (.bool true) }] [] [0, 3, 31] [] [] ⟨[(0, (.v (.str e25_), [])), (3, (.v (.int .i64 b26_), [])), (31, (.v (.bool true), []))], [], []⟩ _ (by kernel_rfl) (.cons h23 (.cons (congrArg AV.bool h24) (.cons h25 (.cons (congrArg AV.bool h26) (.cons h27 (.cons (congrArg AV.bool h28) .nil)))))) ?_
              refine Wc.condT rfl (by kernel_rfl) ?_
              refine Wc.seq ?_
              refine Wc.region [] [] [2] [] [] ⟨[(2, (.v (.bool false), []))], [], []⟩ _ (by kernel_rfl) .nil ?_
              refine Wc.ret ?_
              obtain rfl := Option.some.inj h21
              obtain rfl := Option.some.inj h
              exact ⟨.inl rfl, by kernel_rfl, by kernel_rfl⟩
            · obtain ⟨h29, h21⟩ := oguard h21
              refine Wc.region [{}, {}, {}, {}, { re := some (.bool false) }, {}, {}, {}, {}, {}, { re := some (.bool false) }, {}, {}, {}, {}, {}, { re := some (.bool false) }] [] [0, 3, 31] [] [] ⟨[(0, (.v (.str e25_), [])), (3, (.v (.int .i64 b26_), [])), (31, (.v (.bool ((bt e25_ b26_) == 34)), []))], [], []⟩ _ (by kernel_rfl) (.cons h23 (.cons (congrArg AV.bool h24) (.cons h25 (.cons (congrArg AV.bool h26) (.cons h27 (.cons (congrArg AV.bool h28) (.cons h29 .nil))))))) ?_
              rcases oif h21 with ⟨h30, h21⟩ | ⟨h30, h21⟩
              · refine Wc.condT h30 (by kernel_rfl) ?_
                refine Wc.seq ?_
                refine Wc.region [] [] [2] [] [] ⟨[(2, (.v (.bool false), []))], [], []⟩ _ (by kernel_rfl) .nil ?_
                refine Wc.ret ?_
                obtain rfl := Option.some.inj h21
                obtain rfl := Option.some.inj h
                exact ⟨.inl rfl, by kernel_rfl, by kernel_rfl⟩
              · refine Wc.condF h30 (by kernel_rfl) ?_
                refine Wc.fix (st' := ⟨[(0, (.v (.str e25_), [])), (3, (.v (.int .i64 b26_), []))], [], []⟩) [] [0, 3] [] [] (by kernel_rfl) ?_
                refine Wc.skip ?_
                refine Wc.region [] [] [0, 3] [] [] ⟨[(0, (.v (.str e25_), [])), (3, (.v (.int .i64 (wr.i64 (b26_ + 1))), []))], [], []⟩ _ (by kernel_rfl) .nil ?_
                exact ⟨_, Nat.lt_succ_self _, _, rfl, h21⟩
      · refine Wc.condF h22 (by kernel_rfl) ?_
        refine Wc.fix (st' := ⟨[(0, (.v (.str e25_), []))], [], []⟩) [] [0] [] [] (by kernel_rfl) ?_
        refine Wc.exit ?_
        obtain rfl := Option.some.inj h21
        exact ⟨rfl, rfl⟩
  · rintro st ⟨rfl, rfl⟩
    refine Wc.seq ?_
    obtain ⟨f27_, h31, h⟩ := obind h
    refine Wc.region [{}, {}, { r := some (.v (.bool f27_) []) }] [] [2] [] [] ⟨[(2, (.v (.bool f27_), []))], [], []⟩ _ (by kernel_rfl) (.cons (cspec_l01In h31) .nil) ?_
    refine Wc.ret ?_
    obtain rfl := Option.some.inj h
    exact ⟨.inl rfl, by kernel_rfl, by kernel_rfl⟩

/-- spec.l03One -/
def pspec_l03One (k : Nat) (c28_ : GTerm) : Option Bool :=
  if (c28_.gKind == 1) = true then
    (pspec_l01In k c28_.gNum 0 99999).bind fun f29_ =>
    if f29_ = true then
      if (sEq c28_.gName (bs [])) = true then
        some ((c28_.gKids.length : Int) == 0)
      else
        some false
    else
      some false
  else
    if (c28_.gKind == 2) = true then
      (pspec_l03Name k c28_.gName).bind fun f30_ =>
      if f30_ = true then
        if (c28_.gNum == 0) = true then
          some ((c28_.gKids.length : Int) == 0)
        else
          some false
      else
        some false
    else
      if (c28_.gKind == 3) = true then
        (pspec_l01In k c28_.gNum (-999999999) 999999999).bind fun f31_ =>
        if f31_ = true then
          if (sEq c28_.gName (bs [])) = true then
            some ((c28_.gKids.length : Int) == 0)
          else
            some false
        else
          some false
      else
        if (c28_.gKind == 4) = true then
          (pspec_l03Name k c28_.gName).bind fun f32_ =>
          if f32_ = true then
            if (c28_.gNum == 0) = true then
              (pspec_l01In k (c28_.gKids.length : Int) 1 5).bind fun f33_ =>
              some f33_
            else
              some false
          else
            some false
        else
          some false
theorem cspec_l03One {k : Nat} {c28_ : GTerm} {r : Bool} (h : pspec_l03One k c28_ = some r) : FnO Try.prog 141 [.v (.agg [.int .i64 c28_.gKind, .str c28_.gName, .int .i64 c28_.gNum, .sl (List.map GTerm.c c28_.gKids)]) []] (.v (.bool r) []) [] := by
  refine FnO.of Try.func141 (rfl : Try.f141.body = some _) (Nat.le_of_ble_eq_true (by kernel_rfl)) (Nat.le_of_ble_eq_true (by kernel_rfl)) ?_
  intro w0 X0 Fin pv0 pb
  unfold pspec_l03One at h
  refine Wc.seq ?_
  refine Wc.region [] [] [1] [1] [] ⟨[(1, (.ptr 1 0, []))], [(1, .cells [.int .i64 c28_.gKind, .str c28_.gName, .int .i64 c28_.gNum, .sl (List.map GTerm.c c28_.gKids)] [])], []⟩ _ (by kernel_rfl) .nil ?_
  refine Wc.seq ?_
  refine Wc.seq ?_
  refine Wc.region [] [] [1, 4] [1] [] ⟨[(1, (.ptr 1 0, [])), (4, (.v (.int .i64 c28_.gKind), []))], [(1, .cells [.int .i64 c28_.gKind, .str c28_.gName, .int .i64 c28_.gNum, .sl (List.map GTerm.c c28_.gKids)] [])], []⟩ _ (by kernel_rfl) .nil ?_
  refine Wc.block ?_
  refine Wc.seq ?_
  refine Wc.region [] [] [1, 4, 5] [1] [] ⟨[(1, (.ptr 1 0, [])), (4, (.v (.int .i64 c28_.gKind), [])), (5, (.v (.bool (c28_.gKind == 1)), []))], [(1, .cells [.int .i64 c28_.gKind, .str c28_.gName, .int .i64 c28_.gNum, .sl (List.map GTerm.c c28_.gKids)] [])], []⟩ _ (by kernel_rfl) .nil ?_
  rcases oif h with ⟨h32, h⟩ | ⟨h32, h⟩
  · refine Wc.condT h32 (by kernel_rfl) ?_
    refine Wc.seq ?_
    obtain ⟨f29_, h33, h⟩ := obind h
    rcases oif h with ⟨h34, h⟩ | ⟨h34, h⟩
    · rcases oif h with ⟨h35, h⟩ | ⟨h35, h⟩
      · refine Wc.region [{}, {}, { r := some (.v (.bool f29_) []) }, { re := some (.bool true) }, {}, {}, {}, {}, { re := some (.bool true) }, {}, {}, { v := some (.int .i64 (c28_.gKids.length : Int)) }] [] [2] [] [] ⟨[(2, (.v (.bool ((c28_.gKids.length : Int) == 0)), []))], [], []⟩ _ (by kernel_rfl) (.cons (cspec_l01In h33) (.cons (congrArg AV.bool h34) (.cons (congrArg AV.bool h35) (.cons (len_obl GTerm.c c28_.gKids) .nil)))) ?_
        refine Wc.ret ?_
        obtain rfl := Option.some.inj h
        exact ⟨.inl rfl, by kernel_rfl, by kernel_rfl⟩
      · refine Wc.region [{}, {}, { r := some (.v (.bool f29_) []) }, { re := some (.bool true) }, {}, {}, {}, {}, { re := some (.bool false) }] [] [2] [] [] ⟨[(2, (.v (.bool false), []))], [], []⟩ _ (by kernel_rfl) (.cons (cspec_l01In h33) (.cons (congrArg AV.bool h34) (.cons (congrArg AV.bool h35) .nil))) ?_
        refine Wc.ret ?_
        obtain rfl := Option.some.inj h
        exact ⟨.inl rfl, by kernel_rfl, by kernel_rfl⟩
    · refine Wc.region [{}, {}, { r := some (.v (.bool f29_) []) }, { re := some (.bool false) }] [] [2] [] [] ⟨[(2, (.v (.bool false), []))], [], []⟩ _ (by kernel_rfl) (.cons (cspec_l01In h33) (.cons (congrArg AV.bool h34) .nil)) ?_
      refine Wc.ret ?_
      obtain rfl := Option.some.inj h
      exact ⟨.inl rfl, by kernel_rfl, by kernel_rfl⟩
  · refine Wc.condF h32 (by kernel_rfl) ?_
    refine Wc.seq ?_
    refine Wc.region [] [] [1, 4, 21] [1] [] ⟨[(1, (.ptr 1 0, [])), (4, (.v (.int .i64 c28_.gKind), [])), (21, (.v (.bool (c28_.gKind == 2)), []))], [(1, .cells [.int .i64 c28_.gKind, .str c28_.gName, .int .i64 c28_.gNum, .sl (List.map GTerm.c c28_.gKids)] [])], []⟩ _ (by kernel_rfl) .nil ?_
    rcases oif h with ⟨h36, h⟩ | ⟨h36, h⟩
    · refine Wc.condT h36 (by kernel_rfl) ?_
      refine Wc.seq ?_
      obtain ⟨f30_, h37, h⟩ := obind h
      rcases oif h with ⟨h38, h⟩ | ⟨h38, h⟩
      · rcases oif h with ⟨h39, h⟩ | ⟨h39, h⟩
        · refine Wc.region [{}, {}, { r := some (.v (.bool f30_) []) }, { re := some (.bool true) }, {}, {}, {}, {}, { re := some (.bool true) }, {}, {}, { v := some (.int .i64 (c28_.gKids.length : Int)) }] [] [2] [] [] ⟨[(2, (.v (.bool ((c28_.gKids.length : Int) == 0)), []))], [], []⟩ _ (by kernel_rfl) (.cons (cspec_l03Name h37) (.cons (congrArg AV.bool h38) (.cons (congrArg AV.bool h39) (.cons (len_obl GTerm.c c28_.gKids) .nil)))) ?_
          refine Wc.ret ?_
          obtain rfl := Option.some.inj h
          exact ⟨.inl rfl, by kernel_rfl, by kernel_rfl⟩
        · refine Wc.region [{}, {}, { r := some (.v (.bool f30_) []) }, { re := some (.bool true) }, {}, {}, {}, {}, { re := some (.bool false) }] [] [2] [] [] ⟨[(2, (.v (.bool false), []))], [], []⟩ _ (by kernel_rfl) (.cons (cspec_l03Name h37) (.cons (congrArg AV.bool h38) (.cons (congrArg AV.bool h39) .nil))) ?_
          refine Wc.ret ?_
          obtain rfl := Option.some.inj h
          exact ⟨.inl rfl, by kernel_rfl, by kernel_rfl⟩
      · refine Wc.region [{}, {}, { r := some (.v (.bool f30_) []) }, { re := some (.bool false) }] [] [2] [] [] ⟨[(2, (.v (.bool false), []))], [], []⟩ _ (by kernel_rfl) (.cons (cspec_l03Name h37) (.cons (congrArg AV.bool h38) .nil)) ?_
        refine Wc.ret ?_
        obtain rfl := Option.some.inj h
        exact ⟨.inl rfl, by kernel_rfl, by kernel_rfl⟩
    · refine Wc.condF h36 (by kernel_rfl) ?_
      refine Wc.seq ?_
      refine Wc.region [] [] [1, 4, 37] [1] [] ⟨[(1, (.ptr 1 0, [])), (4, (.v (.int .i64 c28_.gKind), [])), (37, (.v (.bool (c28_.gKind == 3)), []))], [(1, .cells [.int .i64 c28_.gKind, .str c28_.gName, .int .i64 c28_.gNum, .sl (List.map GTerm.c c28_.gKids)] [])], []⟩ _ (by kernel_rfl) .nil ?_
      rcases oif h with ⟨h40, h⟩ | ⟨h40, h⟩
      · refine Wc.condT h40 (by kernel_rfl) ?_
        refine Wc.seq ?_
        obtain ⟨f31_, h41, h⟩ := obind h
        rcases oif h with ⟨h42, h⟩ | ⟨h42, h⟩
        · rcases oif h with ⟨h43, h⟩ | ⟨h43, h⟩
          · refine Wc.region [{}, {}, { r := some (.v (.bool f31_) []) }, { re := some (.bool true) }, {}, {}, {}, {}, { re := some (.bool true) }, {}, {}, { v := some (.int .i64 (c28_.gKids.length : Int)) }] [] [2] [] [] ⟨[(2, (.v (.bool ((c28_.gKids.length : Int) == 0)), []))], [], []⟩ _ (by kernel_rfl) (.cons (cspec_l01In h41) (.cons (congrArg AV.bool h42) (.cons (congrArg AV.bool h43) (.cons (len_obl GTerm.c c28_.gKids) .nil)))) ?_
            refine Wc.ret ?_
            obtain rfl := Option.some.inj h
            exact ⟨.inl rfl, by kernel_rfl, by kernel_rfl⟩
          · refine Wc.region [{}, {}, { r := some (.v (.bool f31_) []) }, { re := some (.bool true) }, {}, {}, {}, {}, { re := some (.bool false) }] [] [2] [] [] ⟨[(2, (.v (.bool false), []))], [], []⟩ _ (by kernel_rfl) (.cons (cspec_l01In h41) (.cons (congrArg AV.bool h42) (.cons (congrArg AV.bool h43) .nil))) ?_
            refine Wc.ret ?_
            obtain rfl := Option.some.inj h
            exact ⟨.inl rfl, by kernel_rfl, by kernel_rfl⟩
        · refine Wc.region [{}, {}, { r := some (.v (.bool f31_) []) }, { re := some (.bool false) }] [] [2] [] [] ⟨[(2, (.v (.bool false), []))], [], []⟩ _ (by kernel_rfl) (.cons (cspec_l01In h41) (.cons (congrArg AV.bool h42) .nil)) ?_
          refine Wc.ret ?_
          obtain rfl := Option.some.inj h
          exact ⟨.inl rfl, by kernel_rfl, by kernel_rfl⟩
      · refine Wc.condF h40 (by kernel_rfl) ?_
        refine Wc.seq ?_
        refine Wc.region [] [] [1, 53] [1] [] ⟨[(1, (.ptr 1 0, [])), (53, (.v (.bool (c28_.gKind == 4)), []))], [(1, .cells [.int .i64 c28_.gKind, .str c28_.gName, .int .i64 c28_.gNum, .sl (List.map GTerm.c c28_.gKids)] [])], []⟩ _ (by kernel_rfl) .nil ?_
        rcases oif h with ⟨h44, h⟩ | ⟨h44, h⟩
        · refine Wc.condT h44 (by kernel_rfl) ?_
          refine Wc.seq ?_
          obtain ⟨f32_, h45, h⟩ := obind h
          rcases oif h with ⟨h46, h⟩ | ⟨h46, h⟩
          · rcases oif h with ⟨h47, h⟩ | ⟨h47, h⟩
            · obtain ⟨f33_, h48, h⟩ := obind h
              refine Wc.region [{}, {}, { r := some (.v (.bool f32_) []) }, { re := some (.bool true) }, {}, {}, {}, {}, { re := some (.bool true) }, {}, {}, { v := some (.int .i64 (c28_.gKids.length : Int)) }, { r := some (.v (.bool f33_) []) }] [] [2] [] [] ⟨[(2, (.v (.bool f33_), []))], [], []⟩ _ (by kernel_rfl) (.cons (cspec_l03Name h45) (.cons (congrArg AV.bool h46) (.cons (congrArg AV.bool h47) (.cons (len_obl GTerm.c c28_.gKids) (.cons (cspec_l01In h48) .nil))))) ?_
              refine Wc.ret ?_
              obtain rfl := Option.some.inj h
              exact ⟨.inl rfl, by kernel_rfl, by kernel_rfl⟩
            · refine Wc.region [{}, {}, { r := some (.v (.bool f32_) []) }, { re := some (.bool true) }, {}, {}, {}, {}, { re := some (.bool false) }] [] [2] [] [] ⟨[(2, (.v (.bool false), []))], [], []⟩ _ (by kernel_rfl) (.cons (cspec_l03Name h45) (.cons (congrArg AV.bool h46) (.cons (congrArg AV.bool h47) .nil))) ?_
              refine Wc.ret ?_
              obtain rfl := Option.some.inj h
              exact ⟨.inl rfl, by kernel_rfl, by kernel_rfl⟩
          · refine Wc.region [{}, {}, { r := some (.v (.bool f32_) []) }, { re := some (.bool false) }] [] [2] [] [] ⟨[(2, (.v (.bool false), []))], [], []⟩ _ (by kernel_rfl) (.cons (cspec_l03Name h45) (.cons (congrArg AV.bool h46) .nil)) ?_
            refine Wc.ret ?_
            obtain rfl := Option.some.inj h
            exact ⟨.inl rfl, by kernel_rfl, by kernel_rfl⟩
        · refine Wc.condF h44 (by kernel_rfl) ?_
          refine Wc.fix (st' := ⟨[], [], []⟩) [] [] [] [] (by kernel_rfl) ?_
          refine Wc.skip ?_
          refine Wc.seq ?_
          refine Wc.region [] [] [2] [] [] ⟨[(2, (.v (.bool false), []))], [], []⟩ _ (by kernel_rfl) .nil ?_
          refine Wc.ret ?_
          obtain rfl := Option.some.inj h
          exact ⟨.inl rfl, by kernel_rfl, by kernel_rfl⟩

def pspec_l03Right_L1 (k : Nat) (rspec_l03Right : GTerm → Int → Option Bool) (c34_ : GTerm) (b35_ : Int) : Nat → Int → Option (Out Bool Unit)
  | 0, _ => none
  | m + 1, b37_ =>
    if (decide (b37_ < (c34_.gKids.length : Int))) = true then
      (at' c34_.gKids b37_).bind fun c38_ =>
      (rspec_l03Right c38_ (wr.i64 (b35_ + 1))).bind fun f39_ =>
      if (!f39_) = true then
        some (.ret false)
      else
        pspec_l03Right_L1 k rspec_l03Right c34_ b35_ m (wr.i64 (b37_ + 1))
    else
      some (.done ())
mutual
/-- spec.l03Right -/
def pspec_l03Right : Nat → GTerm → Int → Option Bool
  | 0, _, _ => none
  | k + 1, c34_, b35_ =>
    if (decide (b35_ > 40)) = true then
      some false
    else
      (pspec_l03One k c34_).bind fun f36_ =>
      if (!f36_) = true then
        some false
      else
        (pspec_l03Right_L1 k (pspec_l03Right k) c34_ b35_ k 0).bind fun out1 => match out1 with
        | .ret r => some r
        | .done () =>
          some true
end
theorem all_pspec_l03Right : ∀ k : Nat, (∀ {c34_ : GTerm} {b35_ : Int} {r : Bool}, pspec_l03Right k c34_ b35_ = some r → FnO Try.prog 120 [.v (.agg [.int .i64 c34_.gKind, .str c34_.gName, .int .i64 c34_.gNum, .sl (List.map GTerm.c c34_.gKids)]) [], .v (.int .i64 b35_) []] (.v (.bool r) []) []) := by
  intro k
  induction k with
  | zero =>
    · intro c34_ b35_ r h
      exact (onone (by rw [pspec_l03Right] at h; exact h)).elim
  | succ k ih =>
    have ih_pspec_l03Right := @ih
    · intro c34_ b35_ r h
      rw [pspec_l03Right] at h
      refine FnO.of Try.func120 (rfl : Try.f120.body = some _) (Nat.le_of_ble_eq_true (by kernel_rfl)) (Nat.le_of_ble_eq_true (by kernel_rfl)) ?_
      intro w0 X0 Fin pv0 pb
      refine Wc.seq ?_
      refine Wc.region [] [] [1, 2] [2] [] ⟨[(1, (.v (.int .i64 b35_), [])), (2, (.ptr 2 0, []))], [(2, .cells [.int .i64 c34_.gKind, .str c34_.gName, .int .i64 c34_.gNum, .sl (List.map GTerm.c c34_.gKids)] [])], []⟩ _ (by kernel_rfl) .nil ?_
      refine Wc.seq ?_
      refine Wc.seq ?_
      rcases oif h with ⟨h49, h⟩ | ⟨h49, h⟩
      · refine Wc.region [{}, {}, { re := some (.bool true) }] [] [1, 2, 12] [2] [] ⟨[(1, (.v (.int .i64 b35_), [])), (2, (.ptr 2 0, [])), (12, (.v (.bool true), []))], [(2, .cells [.int .i64 c34_.gKind, .str c34_.gName, .int .i64 c34_.gNum, .sl (List.map GTerm.c c34_.gKids)] [])], []⟩ _ (by kernel_rfl) (.cons (congrArg AV.bool h49) .nil) ?_
        refine Wc.condT rfl (by kernel_rfl) ?_
        refine Wc.seq ?_
        refine Wc.region [] [] [4] [] [] ⟨[(4, (.v (.bool false), []))], [], []⟩ _ (by kernel_rfl) .nil ?_
        refine Wc.ret ?_
        obtain rfl := Option.some.inj h
        exact ⟨.inl rfl, by kernel_rfl, by kernel_rfl⟩
      · obtain ⟨f36_, h50, h⟩ := obind h
        refine Wc.region [{}, {}, { re := some (.bool false) }, {}, { r := some (.v (.bool f36_) []) }] [] [1, 2, 12] [2] [] ⟨[(1, (.v (.int .i64 b35_), [])), (2, (.ptr 2 0, [])), (12, (.v (.bool (!f36_)), []))], [(2, .cells [.int .i64 c34_.gKind, .str c34_.gName, .int .i64 c34_.gNum, .sl (List.map GTerm.c c34_.gKids)] [])], []⟩ _ (by kernel_rfl) (.cons (congrArg AV.bool h49) (.cons (cspec_l03One h50) .nil)) ?_
        rcases oif h with ⟨h51, h⟩ | ⟨h51, h⟩
        · refine Wc.condT h51 (by kernel_rfl) ?_
          refine Wc.seq ?_
          refine Wc.region [] [] [4] [] [] ⟨[(4, (.v (.bool false), []))], [], []⟩ _ (by kernel_rfl) .nil ?_
          refine Wc.ret ?_
          obtain rfl := Option.some.inj h
          exact ⟨.inl rfl, by kernel_rfl, by kernel_rfl⟩
        · refine Wc.condF h51 (by kernel_rfl) ?_
          refine Wc.fix (st' := ⟨[(1, (.v (.int .i64 b35_), [])), (2, (.ptr 2 0, []))], [(2, .cells [.int .i64 c34_.gKind, .str c34_.gName, .int .i64 c34_.gNum, .sl (List.map GTerm.c c34_.gKids)] [])], []⟩) [] [1, 2] [2] [] (by kernel_rfl) ?_
          refine Wc.skip ?_
          refine Wc.seq ?_
          refine Wc.seq ?_
          refine Wc.region [] [] [1, 2, 5] [2] [] ⟨[(1, (.v (.int .i64 b35_), [])), (2, (.ptr 2 0, [])), (5, (.v (.int .i64 0), []))], [(2, .cells [.int .i64 c34_.gKind, .str c34_.gName, .int .i64 c34_.gNum, .sl (List.map GTerm.c c34_.gKids)] [])], []⟩ _ (by kernel_rfl) .nil ?_
          obtain ⟨out1, h52, h⟩ := obind h
          refine Wc.lastJ (fun st => out1 = .done () ∧ st = ⟨[], [], []⟩) ?_ ?_
          · refine Wc.block ?_
            refine Wc.loop (fun m st => ∃ (b37_ : Int), st = ⟨[(1, (.v (.int .i64 b35_), [])), (2, (.ptr 2 0, [])), (5, (.v (.int .i64 b37_), []))], [(2, .cells [.int .i64 c34_.gKind, .str c34_.gName, .int .i64 c34_.gNum, .sl (List.map GTerm.c c34_.gKids)] [])], []⟩ ∧ pspec_l03Right_L1 k (pspec_l03Right k) c34_ b35_ m b37_ = some out1) ?_ k ⟨_, rfl, h52⟩
            rintro m st ⟨b37_, rfl, h52⟩
            cases m with
            | zero => exact (onone h52).elim
            | succ m =>
              refine Wc.seq ?_
              refine Wc.seq ?_
              refine Wc.region [{}, {}, {}, { v := some (.int .i64 (c34_.gKids.length : Int)) }] [] [1, 2, 5, 17] [2] [] ⟨[(1, (.v (.int .i64 b35_), [])), (2, (.ptr 2 0, [])), (5, (.v (.int .i64 b37_), [])), (17, (.v (.bool (decide (b37_ < (c34_.gKids.length : Int)))), []))], [(2, .cells [.int .i64 c34_.gKind, .str c34_.gName, .int .i64 c34_.gNum, .sl (List.map GTerm.c c34_.gKids)] [])], []⟩ _ (by kernel_rfl) (.cons (len_obl GTerm.c c34_.gKids) .nil) ?_
              rcases oif h52 with ⟨h53, h52⟩ | ⟨h53, h52⟩
              · refine Wc.condT h53 (by kernel_rfl) ?_
                refine Wc.fix (st' := ⟨[(1, (.v (.int .i64 b35_), [])), (2, (.ptr 2 0, [])), (5, (.v (.int .i64 b37_), []))], [(2, .cells [.int .i64 c34_.gKind, .str c34_.gName, .int .i64 c34_.gNum, .sl (List.map GTerm.c c34_.gKids)] [])], []⟩) [] [1, 2, 5] [2] [] (by kernel_rfl) ?_
                refine Wc.skip ?_
                refine Wc.seq ?_
                refine Wc.block ?_
                refine Wc.seq ?_
                obtain ⟨c38_, h54, h52⟩ := obind h52
                obtain ⟨f39_, h55, h52⟩ := obind h52
                refine Wc.region [{}, {}, {}, { v := some (.vptr [.int .i64 c38_.gKind, .str c38_.gName, .int .i64 c38_.gNum, .sl (List.map GTerm.c c38_.gKids)]) }, {}, {}, {}, { r := some (.v (.bool f39_) []) }] [] [1, 2, 5, 28] [2] [] ⟨[(1, (.v (.int .i64 b35_), [])), (2, (.ptr 2 0, [])), (5, (.v (.int .i64 b37_), [])), (28, (.v (.bool (!f39_)), []))], [(2, .cells [.int .i64 c34_.gKind, .str c34_.gName, .int .i64 c34_.gNum, .sl (List.map GTerm.c c34_.gKids)] [])], []⟩ _ (by kernel_rfl) (.cons (at_obl (c := GTerm.c) (GTerm.c_eq c38_) GTerm.c_len h54) (.cons (len_ok 4 [.int .i64 c38_.gKind, .str c38_.gName, .int .i64 c38_.gNum, .sl (List.map GTerm.c c38_.gKids)]) (.cons (ih_pspec_l03Right h55) .nil))) ?_
                rcases oif h52 with ⟨h56, h52⟩ | ⟨h56, h52⟩
                · refine Wc.condT h56 (by kernel_rfl) ?_
                  refine Wc.seq ?_
                  refine Wc.region [] [] [4] [] [] ⟨[(4, (.v (.bool false), []))], [], []⟩ _ (by kernel_rfl) .nil ?_
                  refine Wc.ret ?_
                  obtain rfl := Option.some.inj h52
                  obtain rfl := Option.some.inj h
                  exact ⟨.inl rfl, by kernel_rfl, by kernel_rfl⟩
                · refine Wc.condF h56 (by kernel_rfl) ?_
                  refine Wc.fix (st' := ⟨[(1, (.v (.int .i64 b35_), [])), (2, (.ptr 2 0, [])), (5, (.v (.int .i64 b37_), []))], [(2, .cells [.int .i64 c34_.gKind, .str c34_.gName, .int .i64 c34_.gNum, .sl (List.map GTerm.c c34_.gKids)] [])], []⟩) [] [1, 2, 5] [2] [] (by kernel_rfl) ?_
                  refine Wc.skip ?_
                  refine Wc.region [] [] [1, 2, 5] [2] [] ⟨[(1, (.v (.int .i64 b35_), [])), (2, (.ptr 2 0, [])), (5, (.v (.int .i64 (wr.i64 (b37_ + 1))), []))], [(2, .cells [.int .i64 c34_.gKind, .str c34_.gName, .int .i64 c34_.gNum, .sl (List.map GTerm.c c34_.gKids)] [])], []⟩ _ (by kernel_rfl) .nil ?_
                  exact ⟨_, Nat.lt_succ_self _, _, rfl, h52⟩
              · refine Wc.condF h53 (by kernel_rfl) ?_
                refine Wc.fix (st' := ⟨[], [], []⟩) [] [] [] [] (by kernel_rfl) ?_
                refine Wc.exit ?_
                obtain rfl := Option.some.inj h52
                exact ⟨rfl, rfl⟩
          · rintro st ⟨rfl, rfl⟩
            refine Wc.seq ?_
            refine Wc.region [] [] [4] [] [] ⟨[(4, (.v (.bool true), []))], [], []⟩ _ (by kernel_rfl) .nil ?_
            refine Wc.ret ?_
            obtain rfl := Option.some.inj h
            exact ⟨.inl rfl, by kernel_rfl, by kernel_rfl⟩
theorem cspec_l03Right {k : Nat} {c34_ : GTerm} {b35_ : Int} {r : Bool} (h : pspec_l03Right k c34_ b35_ = some r) : FnO Try.prog 120 [.v (.agg [.int .i64 c34_.gKind, .str c34_.gName, .int .i64 c34_.gNum, .sl (List.map GTerm.c c34_.gKids)]) [], .v (.int .i64 b35_) []] (.v (.bool r) []) [] := (all_pspec_l03Right k) h

/-- spec.TermOk -/
def pspec_TermOk (k : Nat) (c40_ : GTerm) : Option Bool :=
  (pspec_l03Count k c40_ 400).bind fun b41_ =>
  if (decide (b41_ ≥ 0)) = true then
    (pspec_l03Right k c40_ 1).bind fun f42_ =>
    some f42_
  else
    some false
theorem cspec_TermOk {k : Nat} {c40_ : GTerm} {r : Bool} (h : pspec_TermOk k c40_ = some r) : FnO Try.prog 78 [.v (.agg [.int .i64 c40_.gKind, .str c40_.gName, .int .i64 c40_.gNum, .sl (List.map GTerm.c c40_.gKids)]) []] (.v (.bool r) []) [] := by
  refine FnO.of Try.func78 (rfl : Try.f78.body = some _) (Nat.le_of_ble_eq_true (by kernel_rfl)) (Nat.le_of_ble_eq_true (by kernel_rfl)) ?_
  intro w0 X0 Fin pv0 pb
  unfold pspec_TermOk at h
  refine Wc.seq ?_
  refine Wc.region [] [] [1] [1] [] ⟨[(1, (.ptr 1 0, []))], [(1, .cells [.int .i64 c40_.gKind, .str c40_.gName, .int .i64 c40_.gNum, .sl (List.map GTerm.c c40_.gKids)] [])], []⟩ _ (by kernel_rfl) .nil ?_
  refine Wc.seq ?_
  obtain ⟨b41_, h57, h⟩ := obind h
  rcases oif h with ⟨h58, h⟩ | ⟨h58, h⟩
  · obtain ⟨f42_, h59, h⟩ := obind h
    refine Wc.region [{}, { r := some (.v (.int .i64 b41_) []) }, {}, { re := some (.bool true) }, {}, { r := some (.v (.bool f42_) []) }] [] [2] [] [] ⟨[(2, (.v (.bool f42_), []))], [], []⟩ _ (by kernel_rfl) (.cons (cspec_l03Count h57) (.cons (congrArg AV.bool h58) (.cons (cspec_l03Right h59) .nil))) ?_
    refine Wc.ret ?_
    obtain rfl := Option.some.inj h
    exact ⟨.inl rfl, by kernel_rfl, by kernel_rfl⟩
  · refine Wc.region [{}, { r := some (.v (.int .i64 b41_) []) }, {}, { re := some (.bool false) }] [] [2] [] [] ⟨[(2, (.v (.bool false), []))], [], []⟩ _ (by kernel_rfl) (.cons (cspec_l03Count h57) (.cons (congrArg AV.bool h58) .nil)) ?_
    refine Wc.ret ?_
    obtain rfl := Option.some.inj h
    exact ⟨.inl rfl, by kernel_rfl, by kernel_rfl⟩

def pspec_l03Has_L1 (k : Nat) (g43_ : List Int) (b44_ : Int) : Nat → Int → Option (Out Bool Unit)
  | 0, _ => none
  | m + 1, b45_ =>
    if (decide (b45_ < (g43_.length : Int))) = true then
      (at' g43_ b45_).bind fun b46_ =>
      if (b46_ == b44_) = true then
        some (.ret true)
      else
        pspec_l03Has_L1 k g43_ b44_ m (wr.i64 (b45_ + 1))
    else
      some (.done ())
/-- spec.l03Has -/
def pspec_l03Has (k : Nat) (g43_ : List Int) (b44_ : Int) : Option Bool :=
  (pspec_l03Has_L1 k g43_ b44_ k 0).bind fun out1 => match out1 with
  | .ret r => some r
  | .done () =>
    some false
theorem cspec_l03Has {k : Nat} {g43_ : List Int} {b44_ : Int} {r : Bool} (h : pspec_l03Has k g43_ b44_ = some r) : FnO Try.prog 121 [.v (.sl (List.map cI.i64 g43_)) [], .v (.int .i64 b44_) []] (.v (.bool r) []) [] := by
  refine FnO.of Try.func121 (rfl : Try.f121.body = some _) (Nat.le_of_ble_eq_true (by kernel_rfl)) (Nat.le_of_ble_eq_true (by kernel_rfl)) ?_
  intro w0 X0 Fin pv0 pb
  unfold pspec_l03Has at h
  refine Wc.seq ?_
  refine Wc.region [] [] [0, 1] [] [] ⟨[(0, (.v (.sl (List.map cI.i64 g43_)), [])), (1, (.v (.int .i64 b44_), []))], [], []⟩ _ (by kernel_rfl) .nil ?_
  refine Wc.seq ?_
  refine Wc.seq ?_
  refine Wc.region [] [] [0, 1, 5] [] [] ⟨[(0, (.v (.sl (List.map cI.i64 g43_)), [])), (1, (.v (.int .i64 b44_), [])), (5, (.v (.int .i64 0), []))], [], []⟩ _ (by kernel_rfl) .nil ?_
  obtain ⟨out1, h60, h⟩ := obind h
  refine Wc.lastJ (fun st => out1 = .done () ∧ st = ⟨[], [], []⟩) ?_ ?_
  · refine Wc.block ?_
    refine Wc.loop (fun m st => ∃ (b45_ : Int), st = ⟨[(0, (.v (.sl (List.map cI.i64 g43_)), [])), (1, (.v (.int .i64 b44_), [])), (5, (.v (.int .i64 b45_), []))], [], []⟩ ∧ pspec_l03Has_L1 k g43_ b44_ m b45_ = some out1) ?_ k ⟨_, rfl, h60⟩
    rintro m st ⟨b45_, rfl, h60⟩
    cases m with
    | zero => exact (onone h60).elim
    | succ m =>
      refine Wc.seq ?_
      refine Wc.seq ?_
      refine Wc.region [{}, {}, { v := some (.int .i64 (g43_.length : Int)) }] [] [0, 1, 5, 9] [] [] ⟨[(0, (.v (.sl (List.map cI.i64 g43_)), [])), (1, (.v (.int .i64 b44_), [])), (5, (.v (.int .i64 b45_), [])), (9, (.v (.bool (decide (b45_ < (g43_.length : Int)))), []))], [], []⟩ _ (by kernel_rfl) (.cons (len_obl cI.i64 g43_) .nil) ?_
      rcases oif h60 with ⟨h61, h60⟩ | ⟨h61, h60⟩
      · refine Wc.condT h61 (by kernel_rfl) ?_
        refine Wc.fix (st' := ⟨[(0, (.v (.sl (List.map cI.i64 g43_)), [])), (1, (.v (.int .i64 b44_), [])), (5, (.v (.int .i64 b45_), []))], [], []⟩) [] [0, 1, 5] [] [] (by kernel_rfl) ?_
        refine Wc.skip ?_
        refine Wc.seq ?_
        refine Wc.block ?_
        refine Wc.seq ?_
        obtain ⟨b46_, h62, h60⟩ := obind h60
        refine Wc.region [{}, {}, { v := some (.vptr [.int .i64 b46_]) }] [] [0, 1, 5, 17] [] [] ⟨[(0, (.v (.sl (List.map cI.i64 g43_)), [])), (1, (.v (.int .i64 b44_), [])), (5, (.v (.int .i64 b45_), [])), (17, (.v (.bool (b46_ == b44_)), []))], [], []⟩ _ (by kernel_rfl) (.cons (at_obl (c := cI.i64) rfl cI.i64_len h62) (.cons (len_ok 1 [.int .i64 b46_]) .nil)) ?_
        rcases oif h60 with ⟨h63, h60⟩ | ⟨h63, h60⟩
        · refine Wc.condT h63 (by kernel_rfl) ?_
          refine Wc.seq ?_
          refine Wc.region [] [] [4] [] [] ⟨[(4, (.v (.bool true), []))], [], []⟩ _ (by kernel_rfl) .nil ?_
          refine Wc.ret ?_
          obtain rfl := Option.some.inj h60
          obtain rfl := Option.some.inj h
          exact ⟨.inl rfl, by kernel_rfl, by kernel_rfl⟩
        · refine Wc.condF h63 (by kernel_rfl) ?_
          refine Wc.fix (st' := ⟨[(0, (.v (.sl (List.map cI.i64 g43_)), [])), (1, (.v (.int .i64 b44_), [])), (5, (.v (.int .i64 b45_), []))], [], []⟩) [] [0, 1, 5] [] [] (by kernel_rfl) ?_
          refine Wc.skip ?_
          refine Wc.region [] [] [0, 1, 5] [] [] ⟨[(0, (.v (.sl (List.map cI.i64 g43_)), [])), (1, (.v (.int .i64 b44_), [])), (5, (.v (.int .i64 (wr.i64 (b45_ + 1))), []))], [], []⟩ _ (by kernel_rfl) .nil ?_
          exact ⟨_, Nat.lt_succ_self _, _, rfl, h60⟩
      · refine Wc.condF h61 (by kernel_rfl) ?_
        refine Wc.fix (st' := ⟨[], [], []⟩) [] [] [] [] (by kernel_rfl) ?_
        refine Wc.exit ?_
        obtain rfl := Option.some.inj h60
        exact ⟨rfl, rfl⟩
  · rintro st ⟨rfl, rfl⟩
    refine Wc.seq ?_
    refine Wc.region [] [] [4] [] [] ⟨[(4, (.v (.bool false), []))], [], []⟩ _ (by kernel_rfl) .nil ?_
    refine Wc.ret ?_
    obtain rfl := Option.some.inj h
    exact ⟨.inl rfl, by kernel_rfl, by kernel_rfl⟩

def pspec_l12Words_L1 (k : Nat) (rspec_l12Words : GTerm → (List GIns) → (List Int) → Option ((List GIns) × (List Int))) (c58_ : GTerm) : Nat → (List GIns) → (List Int) → Int → Option (Out ((List GIns) × (List Int)) ((List GIns) × (List Int)))
  | 0, _, _, _ => none
  | m + 1, i62_, g63_, b64_ =>
    if (decide (b64_ < (c58_.gKids.length : Int))) = true then
      (at' c58_.gKids b64_).bind fun c67_ =>
      (rspec_l12Words c67_ i62_ g63_).bind fun j68_ =>
      pspec_l12Words_L1 k rspec_l12Words c58_ m j68_.1 j68_.2 (wr.i64 (b64_ + 1))
    else
      some (.done (i62_, g63_))
mutual
/-- spec.l12Words -/
def pspec_l12Words : Nat → GTerm → (List GIns) → (List Int) → Option ((List GIns) × (List Int))
  | 0, _, _, _ => none
  | k + 1, c58_, i59_, g60_ =>
    if (c58_.gKind == 2) = true then
      if i59_.length + [GIns.mk 1 c58_.gName 0 0].length ≤ 1073741824 then
        some (i59_ ++ [GIns.mk 1 c58_.gName 0 0], g60_)
      else none
    else
      if (c58_.gKind == 3) = true then
        if i59_.length + [GIns.mk 2 (bs []) c58_.gNum 0].length ≤ 1073741824 then
          some (i59_ ++ [GIns.mk 2 (bs []) c58_.gNum 0], g60_)
        else none
      else
        if (c58_.gKind == 1) = true then
          (pspec_l03Has k g60_ c58_.gNum).bind fun f61_ =>
          if f61_ = true then
            if i59_.length + [GIns.mk 4 (bs []) c58_.gNum 0].length ≤ 1073741824 then
              some (i59_ ++ [GIns.mk 4 (bs []) c58_.gNum 0], g60_)
            else none
          else
            if i59_.length + [GIns.mk 3 (bs []) c58_.gNum 0].length ≤ 1073741824 then
              if ([] : List Int).length + g60_.length ≤ 1073741824 then
                if g60_.length + [c58_.gNum].length ≤ 1073741824 then
                  some (i59_ ++ [GIns.mk 3 (bs []) c58_.gNum 0], g60_ ++ [c58_.gNum])
                else none
              else none
            else none
        else
          if i59_.length + [GIns.mk 5 c58_.gName 0 (c58_.gKids.length : Int)].length ≤ 1073741824 then
            (pspec_l12Words_L1 k (pspec_l12Words k) c58_ k (i59_ ++ [GIns.mk 5 c58_.gName 0 (c58_.gKids.length : Int)]) g60_ 0).bind fun out1 => match out1 with
            | .ret r => some r
            | .done (i65_, g66_) =>
              some (i65_, g66_)
          else none
end
theorem all_pspec_l12Words : ∀ k : Nat, (∀ {c58_ : GTerm} {i59_ : List GIns} {g60_ : List Int} {r : (List GIns) × (List Int)}, pspec_l12Words k c58_ i59_ g60_ = some r → FnO Try.prog 122 [.v (.agg [.int .i64 c58_.gKind, .str c58_.gName, .int .i64 c58_.gNum, .sl (List.map GTerm.c c58_.gKids)]) [], .v (.slx) [(0, .ex 158 false (List.map GIns.c i59_))], .v (.sl (List.map cI.i64 g60_)) []] (.v (.tup [.slx, .sl (List.map cI.i64 r.2)]) [(0, .ex 158 false (List.map GIns.c r.1))]) []) := by
  intro k
  induction k with
  | zero =>
    · intro c58_ i59_ g60_ r h
      exact (onone (by rw [pspec_l12Words] at h; exact h)).elim
  | succ k ih =>
    have ih_pspec_l12Words := @ih
    · intro c58_ i59_ g60_ r h
      rw [pspec_l12Words] at h
      refine FnO.of Try.func122 (rfl : Try.f122.body = some _) (Nat.le_of_ble_eq_true (by kernel_rfl)) (Nat.le_of_ble_eq_true (by kernel_rfl)) ?_
      intro w0 X0 Fin pv0 pb
      refine Wc.seq ?_
      refine Wc.region [] [] [1, 2, 3] [3] [] ⟨[(1, (.v (.slx), [(0, .ex 158 false (List.map GIns.c i59_))])), (2, (.v (.sl (List.map cI.i64 g60_)), [])), (3, (.ptr 3 0, []))], [(3, .cells [.int .i64 c58_.gKind, .str c58_.gName, .int .i64 c58_.gNum, .sl (List.map GTerm.c c58_.gKids)] [])], []⟩ _ (by kernel_rfl) .nil ?_
      refine Wc.seq ?_
      refine Wc.seq ?_
      refine Wc.region [] [] [1, 2, 3, 10] [3] [] ⟨[(1, (.v (.slx), [(0, .ex 158 false (List.map GIns.c i59_))])), (2, (.v (.sl (List.map cI.i64 g60_)), [])), (3, (.ptr 3 0, [])), (10, (.v (.int .i64 c58_.gKind), []))], [(3, .cells [.int .i64 c58_.gKind, .str c58_.gName, .int .i64 c58_.gNum, .sl (List.map GTerm.c c58_.gKids)] [])], []⟩ _ (by kernel_rfl) .nil ?_
      refine Wc.block ?_
      refine Wc.seq ?_
      refine Wc.region [] [] [1, 2, 3, 10, 11] [3] [] ⟨[(1, (.v (.slx), [(0, .ex 158 false (List.map GIns.c i59_))])), (2, (.v (.sl (List.map cI.i64 g60_)), [])), (3, (.ptr 3 0, [])), (10, (.v (.int .i64 c58_.gKind), [])), (11, (.v (.bool (c58_.gKind == 2)), []))], [(3, .cells [.int .i64 c58_.gKind, .str c58_.gName, .int .i64 c58_.gNum, .sl (List.map GTerm.c c58_.gKids)] [])], []⟩ _ (by kernel_rfl) .nil ?_
      rcases oif h with ⟨h80, h⟩ | ⟨h80, h⟩
      · refine Wc.condT h80 (by kernel_rfl) ?_
        refine Wc.seq ?_
        obtain ⟨h81, h⟩ := oguard h
        refine Wc.region [{ tk := [1] }, {}, {}, {}, { c := some (List.map GIns.c [GIns.mk 1 c58_.gName 0 0]) }, { c := some (List.map GIns.c (i59_ ++ [GIns.mk 1 c58_.gName 0 0])), tk := [13], md := 1 }, {}, { tk := [18] }] [] [6, 7] [] [] ⟨[(6, (.v (.slx), [(0, .ex 158 false (List.map GIns.c (i59_ ++ [GIns.mk 1 c58_.gName 0 0])))])), (7, (.v (.sl (List.map cI.i64 g60_)), []))], [], []⟩ _ (by kernel_rfl) (.cons (cl_cons (c := GIns.c) (x := GIns.mk 1 c58_.gName 0 0) (GIns.c_eq (GIns.mk 1 c58_.gName 0 0)) (cl_nil GIns.c)) (.cons (app_re2 GIns.c i59_ [GIns.mk 1 c58_.gName 0 0]) (.cons (app_leaf (c := GIns.c) (ys := [GIns.mk 1 c58_.gName 0 0]) GIns.c_leaf) (.cons (app_obl2 (c := GIns.c) (xs := i59_) (ys := [GIns.mk 1 c58_.gName 0 0]) GIns.c_len h81) .nil)))) ?_
        refine Wc.ret ?_
        obtain rfl := Option.some.inj h
        exact ⟨.inl rfl, by kernel_rfl, by kernel_rfl⟩
      · refine Wc.condF h80 (by kernel_rfl) ?_
        refine Wc.seq ?_
        refine Wc.region [] [] [1, 2, 3, 10, 20] [3] [] ⟨[(1, (.v (.slx), [(0, .ex 158 false (List.map GIns.c i59_))])), (2, (.v (.sl (List.map cI.i64 g60_)), [])), (3, (.ptr 3 0, [])), (10, (.v (.int .i64 c58_.gKind), [])), (20, (.v (.bool (c58_.gKind == 3)), []))], [(3, .cells [.int .i64 c58_.gKind, .str c58_.gName, .int .i64 c58_.gNum, .sl (List.map GTerm.c c58_.gKids)] [])], []⟩ _ (by kernel_rfl) .nil ?_
        rcases oif h with ⟨h82, h⟩ | ⟨h82, h⟩
        · refine Wc.condT h82 (by kernel_rfl) ?_
          refine Wc.seq ?_
          obtain ⟨h83, h⟩ := oguard h
          refine Wc.region [{ tk := [1] }, {}, {}, {}, { c := some (List.map GIns.c [GIns.mk 2 (bs []) c58_.gNum 0]) }, { c := some (List.map GIns.c (i59_ ++ [GIns.mk 2 (bs []) c58_.gNum 0])), tk := [22], md := 1 }, {}, { tk := [27] }] [] [6, 7] [] [] ⟨[(6, (.v (.slx), [(0, .ex 158 false (List.map GIns.c (i59_ ++ [GIns.mk 2 (bs []) c58_.gNum 0])))])), (7, (.v (.sl (List.map cI.i64 g60_)), []))], [], []⟩ _ (by kernel_rfl) (.cons (cl_cons (c := GIns.c) (x := GIns.mk 2 (bs []) c58_.gNum 0) (GIns.c_eq (GIns.mk 2 (bs []) c58_.gNum 0)) (cl_nil GIns.c)) (.cons (app_re2 GIns.c i59_ [GIns.mk 2 (bs []) c58_.gNum 0]) (.cons (app_leaf (c := GIns.c) (ys := [GIns.mk 2 (bs []) c58_.gNum 0]) GIns.c_leaf) (.cons (app_obl2 (c := GIns.c) (xs := i59_) (ys := [GIns.mk 2 (bs []) c58_.gNum 0]) GIns.c_len h83) .nil)))) ?_
          refine Wc.ret ?_
          obtain rfl := Option.some.inj h
          exact ⟨.inl rfl, by kernel_rfl, by kernel_rfl⟩
        · refine Wc.condF h82 (by kernel_rfl) ?_
          refine Wc.seq ?_
          refine Wc.region [] [] [1, 2, 3, 29] [3] [] ⟨[(1, (.v (.slx), [(0, .ex 158 false (List.map GIns.c i59_))])), (2, (.v (.sl (List.map cI.i64 g60_)), [])), (3, (.ptr 3 0, [])), (29, (.v (.bool (c58_.gKind == 1)), []))], [(3, .cells [.int .i64 c58_.gKind, .str c58_.gName, .int .i64 c58_.gNum, .sl (List.map GTerm.c c58_.gKids)] [])], []⟩ _ (by kernel_rfl) .nil ?_
          rcases oif h with ⟨h84, h⟩ | ⟨h84, h⟩
          · refine Wc.condT h84 (by kernel_rfl) ?_
            refine Wc.seq ?_
            refine Wc.seq ?_
            obtain ⟨f61_, h85, h⟩ := obind h
            refine Wc.region [{}, {}, {}, { r := some (.v (.bool f61_) []) }] [] [1, 2, 3, 34] [3] [] ⟨[(1, (.v (.slx), [(0, .ex 158 false (List.map GIns.c i59_))])), (2, (.v (.sl (List.map cI.i64 g60_)), [])), (3, (.ptr 3 0, [])), (34, (.v (.bool f61_), []))], [(3, .cells [.int .i64 c58_.gKind, .str c58_.gName, .int .i64 c58_.gNum, .sl (List.map GTerm.c c58_.gKids)] [])], []⟩ _ (by kernel_rfl) (.cons (cspec_l03Has h85) .nil) ?_
            rcases oif h with ⟨h86, h⟩ | ⟨h86, h⟩
            · refine Wc.condT h86 (by kernel_rfl) ?_
              refine Wc.seq ?_
              obtain ⟨h87, h⟩ := oguard h
              refine Wc.region [{ tk := [1] }, {}, {}, {}, { c := some (List.map GIns.c [GIns.mk 4 (bs []) c58_.gNum 0]) }, { c := some (List.map GIns.c (i59_ ++ [GIns.mk 4 (bs []) c58_.gNum 0])), tk := [35], md := 1 }, {}, { tk := [40] }] [] [6, 7] [] [] ⟨[(6, (.v (.slx), [(0, .ex 158 false (List.map GIns.c (i59_ ++ [GIns.mk 4 (bs []) c58_.gNum 0])))])), (7, (.v (.sl (List.map cI.i64 g60_)), []))], [], []⟩ _ (by kernel_rfl) (.cons (cl_cons (c := GIns.c) (x := GIns.mk 4 (bs []) c58_.gNum 0) (GIns.c_eq (GIns.mk 4 (bs []) c58_.gNum 0)) (cl_nil GIns.c)) (.cons (app_re2 GIns.c i59_ [GIns.mk 4 (bs []) c58_.gNum 0]) (.cons (app_leaf (c := GIns.c) (ys := [GIns.mk 4 (bs []) c58_.gNum 0]) GIns.c_leaf) (.cons (app_obl2 (c := GIns.c) (xs := i59_) (ys := [GIns.mk 4 (bs []) c58_.gNum 0]) GIns.c_len h87) .nil)))) ?_
              refine Wc.ret ?_
              obtain rfl := Option.some.inj h
              exact ⟨.inl rfl, by kernel_rfl, by kernel_rfl⟩
            · refine Wc.condF h86 (by kernel_rfl) ?_
              refine Wc.fix (st' := ⟨[(1, (.v (.slx), [(0, .ex 158 false (List.map GIns.c i59_))])), (2, (.v (.sl (List.map cI.i64 g60_)), [])), (3, (.ptr 3 0, []))], [(3, .cells [.int .i64 c58_.gKind, .str c58_.gName, .int .i64 c58_.gNum, .sl (List.map GTerm.c c58_.gKids)] [])], []⟩) [] [1, 2, 3] [3] [] (by kernel_rfl) ?_
              refine Wc.skip ?_
              refine Wc.seq ?_
              obtain ⟨h88, h⟩ := oguard h
              obtain ⟨h89, h⟩ := oguard h
              obtain ⟨h90, h⟩ := oguard h
              refine Wc.draw hmix [{ tk := [1] }, {}, {}, {}, { c := some (List.map GIns.c [GIns.mk 3 (bs []) c58_.gNum 0]) }, { c := some (List.map GIns.c (i59_ ++ [GIns.mk 3 (bs []) c58_.gNum 0])), tk := [42], md := 1 }, { c := some (List.map cI.i64 []) }, {}, { c := some (List.map cI.i64 g60_), tk := [48] }, {}, {}, { c := some (List.map cI.i64 [c58_.gNum]) }, { c := some (List.map cI.i64 (g60_ ++ [c58_.gNum])), tk := [50] }, { tk := [47] }, { tk := [54] }] [] [6, 7] [] [] ⟨[(6, (.v (.slx), [(0, .ex 158 false (List.map GIns.c (i59_ ++ [GIns.mk 3 (bs []) c58_.gNum 0])))])), (7, (.v (.sl (List.map cI.i64 (g60_ ++ [c58_.gNum]))), [(0, .app 3)]))], [], []⟩ _ (by kernel_rfl) (fun X => by kernel_rfl) (.cons (cl_cons (c := GIns.c) (x := GIns.mk 3 (bs []) c58_.gNum 0) (GIns.c_eq (GIns.mk 3 (bs []) c58_.gNum 0)) (cl_nil GIns.c)) (.cons (app_re2 GIns.c i59_ [GIns.mk 3 (bs []) c58_.gNum 0]) (.cons (app_leaf (c := GIns.c) (ys := [GIns.mk 3 (bs []) c58_.gNum 0]) GIns.c_leaf) (.cons (app_obl2 (c := GIns.c) (xs := i59_) (ys := [GIns.mk 3 (bs []) c58_.gNum 0]) GIns.c_len h88) (.cons (cl_nil cI.i64) (.cons (app_re0 cI.i64 g60_) (.cons (app_leaf (c := cI.i64) (ys := g60_) cI.i64_leaf) (.cons (app_obl2 (c := cI.i64) (xs := []) (ys := g60_) cI.i64_len h89) (.cons (cl_cons (c := cI.i64) (x := c58_.gNum) rfl (cl_nil cI.i64)) (.cons (app_re2 cI.i64 g60_ [c58_.gNum]) (.cons (app_leaf (c := cI.i64) (ys := [c58_.gNum]) cI.i64_leaf) (.cons (app_obl2 (c := cI.i64) (xs := g60_) (ys := [c58_.gNum]) cI.i64_len h90) .nil)))))))))))) ?_
              refine Wc.fix (st' := ⟨[(6, (.v (.slx), [(0, .ex 158 false (List.map GIns.c (i59_ ++ [GIns.mk 3 (bs []) c58_.gNum 0])))])), (7, (.v (.sl (List.map cI.i64 (g60_ ++ [c58_.gNum]))), []))], [], []⟩) [.un (.t 7 0)] [6, 7] [] [] (by kernel_rfl) ?_
              refine Wc.ret ?_
              obtain rfl := Option.some.inj h
              exact ⟨.inl rfl, by kernel_rfl, by kernel_rfl⟩
          · refine Wc.condF h84 (by kernel_rfl) ?_
            refine Wc.fix (st' := ⟨[(1, (.v (.slx), [(0, .ex 158 false (List.map GIns.c i59_))])), (2, (.v (.sl (List.map cI.i64 g60_)), [])), (3, (.ptr 3 0, []))], [(3, .cells [.int .i64 c58_.gKind, .str c58_.gName, .int .i64 c58_.gNum, .sl (List.map GTerm.c c58_.gKids)] [])], []⟩) [] [1, 2, 3] [3] [] (by kernel_rfl) ?_
            refine Wc.skip ?_
            refine Wc.seq ?_
            obtain ⟨h91, h⟩ := oguard h
            refine Wc.region [{ tk := [1] }, {}, {}, {}, {}, { v := some (.int .i64 (c58_.gKids.length : Int)) }, {}, { c := some (List.map GIns.c [GIns.mk 5 c58_.gName 0 (c58_.gKids.length : Int)]) }, { c := some (List.map GIns.c (i59_ ++ [GIns.mk 5 c58_.gName 0 (c58_.gKids.length : Int)])), tk := [55], md := 1 }, { tk := [63] }] [] [1, 2, 3] [3] [] ⟨[(1, (.v (.slx), [(0, .ex 158 false (List.map GIns.c (i59_ ++ [GIns.mk 5 c58_.gName 0 (c58_.gKids.length : Int)])))])), (2, (.v (.sl (List.map cI.i64 g60_)), [])), (3, (.ptr 3 0, []))], [(3, .cells [.int .i64 c58_.gKind, .str c58_.gName, .int .i64 c58_.gNum, .sl (List.map GTerm.c c58_.gKids)] [])], []⟩ _ (by kernel_rfl) (.cons (len_obl GTerm.c c58_.gKids) (.cons (cl_cons (c := GIns.c) (x := GIns.mk 5 c58_.gName 0 (c58_.gKids.length : Int)) (GIns.c_eq (GIns.mk 5 c58_.gName 0 (c58_.gKids.length : Int))) (cl_nil GIns.c)) (.cons (app_re2 GIns.c i59_ [GIns.mk 5 c58_.gName 0 (c58_.gKids.length : Int)]) (.cons (app_leaf (c := GIns.c) (ys := [GIns.mk 5 c58_.gName 0 (c58_.gKids.length : Int)]) GIns.c_leaf) (.cons (app_obl2 (c := GIns.c) (xs := i59_) (ys := [GIns.mk 5 c58_.gName 0 (c58_.gKids.length : Int)]) GIns.c_len h91) .nil))))) ?_
            refine Wc.seq ?_
            refine Wc.seq ?_
            refine Wc.region [] [] [1, 2, 3, 8] [3] [] ⟨[(1, (.v (.slx), [(0, .ex 158 false (List.map GIns.c (i59_ ++ [GIns.mk 5 c58_.gName 0 (c58_.gKids.length : Int)])))])), (2, (.v (.sl (List.map cI.i64 g60_)), [])), (3, (.ptr 3 0, [])), (8, (.v (.int .i64 0), []))], [(3, .cells [.int .i64 c58_.gKind, .str c58_.gName, .int .i64 c58_.gNum, .sl (List.map GTerm.c c58_.gKids)] [])], []⟩ _ (by kernel_rfl) .nil ?_
            obtain ⟨out1, h92, h⟩ := obind h
            refine Wc.lastJ (fun st => ∃ (i65_ : List GIns) (g66_ : List Int), out1 = .done (i65_, g66_) ∧ st = ⟨[(1, (.v (.slx), [(0, .ex 158 false (List.map GIns.c i65_))])), (2, (.v (.sl (List.map cI.i64 g66_)), []))], [], []⟩) ?_ ?_
            · refine Wc.block ?_
              refine Wc.loop (fun m st => ∃ (i62_ : List GIns) (g63_ : List Int) (b64_ : Int), st = ⟨[(1, (.v (.slx), [(0, .ex 158 false (List.map GIns.c i62_))])), (2, (.v (.sl (List.map cI.i64 g63_)), [])), (3, (.ptr 3 0, [])), (8, (.v (.int .i64 b64_), []))], [(3, .cells [.int .i64 c58_.gKind, .str c58_.gName, .int .i64 c58_.gNum, .sl (List.map GTerm.c c58_.gKids)] [])], []⟩ ∧ pspec_l12Words_L1 k (pspec_l12Words k) c58_ m i62_ g63_ b64_ = some out1) ?_ k ⟨_, _, _, rfl, h92⟩
              rintro m st ⟨i62_, g63_, b64_, rfl, h92⟩
              cases m with
              | zero => exact (onone h92).elim
              | succ m =>
                refine Wc.seq ?_
                refine Wc.seq ?_
                refine Wc.region [{}, {}, {}, { v := some (.int .i64 (c58_.gKids.length : Int)) }] [] [1, 2, 3, 8, 68] [3] [] ⟨[(1, (.v (.slx), [(0, .ex 158 false (List.map GIns.c i62_))])), (2, (.v (.sl (List.map cI.i64 g63_)), [])), (3, (.ptr 3 0, [])), (8, (.v (.int .i64 b64_), [])), (68, (.v (.bool (decide (b64_ < (c58_.gKids.length : Int)))), []))], [(3, .cells [.int .i64 c58_.gKind, .str c58_.gName, .int .i64 c58_.gNum, .sl (List.map GTerm.c c58_.gKids)] [])], []⟩ _ (by kernel_rfl) (.cons (len_obl GTerm.c c58_.gKids) .nil) ?_
                rcases oif h92 with ⟨h93, h92⟩ | ⟨h93, h92⟩
                · refine Wc.condT h93 (by kernel_rfl) ?_
                  refine Wc.fix (st' := ⟨[(1, (.v (.slx), [(0, .ex 158 false (List.map GIns.c i62_))])), (2, (.v (.sl (List.map cI.i64 g63_)), [])), (3, (.ptr 3 0, [])), (8, (.v (.int .i64 b64_), []))], [(3, .cells [.int .i64 c58_.gKind, .str c58_.gName, .int .i64 c58_.gNum, .sl (List.map GTerm.c c58_.gKids)] [])], []⟩) [] [1, 2, 3, 8] [3] [] (by kernel_rfl) ?_
                  refine Wc.skip ?_
                  refine Wc.seq ?_
                  refine Wc.block ?_
                  obtain ⟨c67_, h94, h92⟩ := obind h92
                  obtain ⟨j68_, h95, h92⟩ := obind h92
                  refine Wc.region [{}, {}, {}, { v := some (.vptr [.int .i64 c67_.gKind, .str c67_.gName, .int .i64 c67_.gNum, .sl (List.map GTerm.c c67_.gKids)]) }, {}, { tk := [1] }, {}, { tk := [77], r := some (.v (.tup [.slx, .sl (List.map cI.i64 j68_.2)]) [(0, .ex 158 false (List.map GIns.c j68_.1))]) }, { tk := [79] }, { tk := [71] }, {}, { tk := [80] }] [] [1, 2, 3, 8] [3] [] ⟨[(1, (.v (.slx), [(0, .ex 158 false (List.map GIns.c j68_.1))])), (2, (.v (.sl (List.map cI.i64 j68_.2)), [])), (3, (.ptr 3 0, [])), (8, (.v (.int .i64 b64_), []))], [(3, .cells [.int .i64 c58_.gKind, .str c58_.gName, .int .i64 c58_.gNum, .sl (List.map GTerm.c c58_.gKids)] [])], []⟩ _ (by kernel_rfl) (.cons (at_obl (c := GTerm.c) (GTerm.c_eq c67_) GTerm.c_len h94) (.cons (len_ok 4 [.int .i64 c67_.gKind, .str c67_.gName, .int .i64 c67_.gNum, .sl (List.map GTerm.c c67_.gKids)]) (.cons (ih_pspec_l12Words h95) .nil))) ?_
                  refine Wc.region [] [] [1, 2, 3, 8] [3] [] ⟨[(1, (.v (.slx), [(0, .ex 158 false (List.map GIns.c j68_.1))])), (2, (.v (.sl (List.map cI.i64 j68_.2)), [])), (3, (.ptr 3 0, [])), (8, (.v (.int .i64 (wr.i64 (b64_ + 1))), []))], [(3, .cells [.int .i64 c58_.gKind, .str c58_.gName, .int .i64 c58_.gNum, .sl (List.map GTerm.c c58_.gKids)] [])], []⟩ _ (by kernel_rfl) .nil ?_
                  exact ⟨_, Nat.lt_succ_self _, _, _, _, rfl, h92⟩
                · refine Wc.condF h93 (by kernel_rfl) ?_
                  refine Wc.fix (st' := ⟨[(1, (.v (.slx), [(0, .ex 158 false (List.map GIns.c i62_))])), (2, (.v (.sl (List.map cI.i64 g63_)), []))], [], []⟩) [] [1, 2] [] [] (by kernel_rfl) ?_
                  refine Wc.exit ?_
                  obtain rfl := Option.some.inj h92
                  exact ⟨_, _, rfl, rfl⟩
            · rintro st ⟨i65_, g66_, rfl, rfl⟩
              refine Wc.seq ?_
              refine Wc.region [{ tk := [1] }, {}, { tk := [82] }] [] [6, 7] [] [] ⟨[(6, (.v (.slx), [(0, .ex 158 false (List.map GIns.c i65_))])), (7, (.v (.sl (List.map cI.i64 g66_)), []))], [], []⟩ _ (by kernel_rfl) .nil ?_
              refine Wc.ret ?_
              obtain rfl := Option.some.inj h
              exact ⟨.inl rfl, by kernel_rfl, by kernel_rfl⟩
theorem cspec_l12Words {k : Nat} {c58_ : GTerm} {i59_ : List GIns} {g60_ : List Int} {r : (List GIns) × (List Int)} (h : pspec_l12Words k c58_ i59_ g60_ = some r) : FnO Try.prog 122 [.v (.agg [.int .i64 c58_.gKind, .str c58_.gName, .int .i64 c58_.gNum, .sl (List.map GTerm.c c58_.gKids)]) [], .v (.slx) [(0, .ex 158 false (List.map GIns.c i59_))], .v (.sl (List.map cI.i64 g60_)) []] (.v (.tup [.slx, .sl (List.map cI.i64 r.2)]) [(0, .ex 158 false (List.map GIns.c r.1))]) [] := (all_pspec_l12Words k) h

def pspec_WordsOf_L1 (k : Nat) (g80_ : List Int) : Nat → (List Int) → Int → Option (Out ((List GIns) × (List Int)) (List Int))
  | 0, _, _ => none
  | m + 1, g81_, b82_ =>
    if (decide (b82_ < (g80_.length : Int))) = true then
      (at' g80_ b82_).bind fun b84_ =>
      (pspec_l03Has k g81_ b84_).bind fun f85_ =>
      if (!f85_) = true then
        (at' g80_ b82_).bind fun b86_ =>
        if g81_.length + [b86_].length ≤ 1073741824 then
          pspec_WordsOf_L1 k g80_ m (g81_ ++ [b86_]) (wr.i64 (b82_ + 1))
        else none
      else
        pspec_WordsOf_L1 k g80_ m g81_ (wr.i64 (b82_ + 1))
    else
      some (.done g81_)
/-- spec.WordsOf -/
def pspec_WordsOf (k : Nat) (c79_ : GTerm) (g80_ : List Int) : Option ((List GIns) × (List Int)) :=
  (pspec_WordsOf_L1 k g80_ k [] 0).bind fun out1 => match out1 with
  | .ret r => some r
  | .done g83_ =>
    (pspec_TermOk k c79_).bind fun f87_ =>
    if (!f87_) = true then
      some ([], g83_)
    else
      (pspec_l12Words k c79_ [] g83_).bind fun j88_ =>
      some (j88_.1, j88_.2)
theorem cspec_WordsOf {k : Nat} {c79_ : GTerm} {g80_ : List Int} {r : (List GIns) × (List Int)} (h : pspec_WordsOf k c79_ g80_ = some r) : FnO Try.prog 79 [.v (.agg [.int .i64 c79_.gKind, .str c79_.gName, .int .i64 c79_.gNum, .sl (List.map GTerm.c c79_.gKids)]) [], .v (.sl (List.map cI.i64 g80_)) []] (.v (.tup [.sl (List.map GIns.c r.1), .sl (List.map cI.i64 r.2)]) []) [] := by
  refine FnO.of Try.func79 (rfl : Try.f79.body = some _) (Nat.le_of_ble_eq_true (by kernel_rfl)) (Nat.le_of_ble_eq_true (by kernel_rfl)) ?_
  intro w0 X0 Fin pv0 pb
  unfold pspec_WordsOf at h
  refine Wc.seq ?_
  refine Wc.region [] [] [1, 2] [2] [] ⟨[(1, (.v (.sl (List.map cI.i64 g80_)), [])), (2, (.ptr 2 0, []))], [(2, .cells [.int .i64 c79_.gKind, .str c79_.gName, .int .i64 c79_.gNum, .sl (List.map GTerm.c c79_.gKids)] [])], []⟩ _ (by kernel_rfl) .nil ?_
  refine Wc.seq ?_
  refine Wc.region [{ c := some (List.map cI.i64 []) }, { tk := [8] }] [] [1, 2, 6] [2] [] ⟨[(1, (.v (.sl (List.map cI.i64 g80_)), [])), (2, (.ptr 2 0, [])), (6, (.v (.sl (List.map cI.i64 [])), [(0, .app 3)]))], [(2, .cells [.int .i64 c79_.gKind, .str c79_.gName, .int .i64 c79_.gNum, .sl (List.map GTerm.c c79_.gKids)] [])], []⟩ _ (by kernel_rfl) (.cons (cl_nil cI.i64) .nil) ?_
  refine Wc.seq ?_
  refine Wc.seq ?_
  refine Wc.region [] [] [1, 2, 6, 7] [2] [] ⟨[(1, (.v (.sl (List.map cI.i64 g80_)), [])), (2, (.ptr 2 0, [])), (6, (.v (.sl (List.map cI.i64 [])), [(0, .app 3)])), (7, (.v (.int .i64 0), []))], [(2, .cells [.int .i64 c79_.gKind, .str c79_.gName, .int .i64 c79_.gNum, .sl (List.map GTerm.c c79_.gKids)] [])], []⟩ _ (by kernel_rfl) .nil ?_
  obtain ⟨out1, h106, h⟩ := obind h
  refine Wc.lastJ (fun st => ∃ (g83_ : List Int), out1 = .done g83_ ∧ st = ⟨[(2, (.ptr 2 0, [])), (6, (.v (.sl (List.map cI.i64 g83_)), [(0, .app 3)]))], [(2, .cells [.int .i64 c79_.gKind, .str c79_.gName, .int .i64 c79_.gNum, .sl (List.map GTerm.c c79_.gKids)] [])], []⟩) ?_ ?_
  · refine Wc.block ?_
    refine Wc.loop (fun m st => ∃ (g81_ : List Int) (b82_ : Int), st = ⟨[(1, (.v (.sl (List.map cI.i64 g80_)), [])), (2, (.ptr 2 0, [])), (6, (.v (.sl (List.map cI.i64 g81_)), [(0, .app 3)])), (7, (.v (.int .i64 b82_), []))], [(2, .cells [.int .i64 c79_.gKind, .str c79_.gName, .int .i64 c79_.gNum, .sl (List.map GTerm.c c79_.gKids)] [])], []⟩ ∧ pspec_WordsOf_L1 k g80_ m g81_ b82_ = some out1) ?_ k ⟨_, _, rfl, h106⟩
    rintro m st ⟨g81_, b82_, rfl, h106⟩
    cases m with
    | zero => exact (onone h106).elim
    | succ m =>
      refine Wc.seq ?_
      refine Wc.seq ?_
      refine Wc.region [{}, {}, { v := some (.int .i64 (g80_.length : Int)) }] [] [1, 2, 6, 7, 12] [2] [] ⟨[(1, (.v (.sl (List.map cI.i64 g80_)), [])), (2, (.ptr 2 0, [])), (6, (.v (.sl (List.map cI.i64 g81_)), [(0, .app 3)])), (7, (.v (.int .i64 b82_), [])), (12, (.v (.bool (decide (b82_ < (g80_.length : Int)))), []))], [(2, .cells [.int .i64 c79_.gKind, .str c79_.gName, .int .i64 c79_.gNum, .sl (List.map GTerm.c c79_.gKids)] [])], []⟩ _ (by kernel_rfl) (.cons (len_obl cI.i64 g80_) .nil) ?_
      rcases oif h106 with ⟨h107, h106⟩ | ⟨h107, h106⟩
      · refine Wc.condT h107 (by kernel_rfl) ?_
        refine Wc.fix (st' := ⟨[(1, (.v (.sl (List.map cI.i64 g80_)), [])), (2, (.ptr 2 0, [])), (6, (.v (.sl (List.map cI.i64 g81_)), [(0, .app 3)])), (7, (.v (.int .i64 b82_), []))], [(2, .cells [.int .i64 c79_.gKind, .str c79_.gName, .int .i64 c79_.gNum, .sl (List.map GTerm.c c79_.gKids)] [])], []⟩) [] [1, 2, 6, 7] [2] [] (by kernel_rfl) ?_
        refine Wc.skip ?_
        refine Wc.seq ?_
        refine Wc.block ?_
        refine Wc.seq ?_
        obtain ⟨b84_, h108, h106⟩ := obind h106
        obtain ⟨f85_, h109, h106⟩ := obind h106
        refine Wc.region [{}, {}, {}, { v := some (.vptr [.int .i64 b84_]) }, {}, { r := some (.v (.bool f85_) []) }] [] [1, 2, 6, 7, 21] [2] [] ⟨[(1, (.v (.sl (List.map cI.i64 g80_)), [])), (2, (.ptr 2 0, [])), (6, (.v (.sl (List.map cI.i64 g81_)), [(0, .app 3)])), (7, (.v (.int .i64 b82_), [])), (21, (.v (.bool (!f85_)), []))], [(2, .cells [.int .i64 c79_.gKind, .str c79_.gName, .int .i64 c79_.gNum, .sl (List.map GTerm.c c79_.gKids)] [])], []⟩ _ (by kernel_rfl) (.cons (at_obl (c := cI.i64) rfl cI.i64_len h108) (.cons (len_ok 1 [.int .i64 b84_]) (.cons (cspec_l03Has h109) .nil))) ?_
        rcases oif h106 with ⟨h110, h106⟩ | ⟨h110, h106⟩
        · refine Wc.condT h110 (by kernel_rfl) ?_
          obtain ⟨b86_, h111, h106⟩ := obind h106
          obtain ⟨h112, h106⟩ := oguard h106
          refine Wc.region [{ tk := [6] }, {}, {}, { v := some (.vptr [.int .i64 b86_]) }, {}, { c := some (List.map cI.i64 [b86_]) }, { c := some (List.map cI.i64 (g81_ ++ [b86_])), tk := [22] }, { tk := [28] }] [] [1, 2, 6, 7] [2] [] ⟨[(1, (.v (.sl (List.map cI.i64 g80_)), [])), (2, (.ptr 2 0, [])), (6, (.v (.sl (List.map cI.i64 (g81_ ++ [b86_]))), [(0, .app 3)])), (7, (.v (.int .i64 b82_), []))], [(2, .cells [.int .i64 c79_.gKind, .str c79_.gName, .int .i64 c79_.gNum, .sl (List.map GTerm.c c79_.gKids)] [])], []⟩ _ (by kernel_rfl) (.cons (at_obl (c := cI.i64) rfl cI.i64_len h111) (.cons (len_ok 1 [.int .i64 b86_]) (.cons (cl_cons (c := cI.i64) (x := b86_) rfl (cl_nil cI.i64)) (.cons (app_re2 cI.i64 g81_ [b86_]) (.cons (app_leaf (c := cI.i64) (ys := [b86_]) cI.i64_leaf) (.cons (app_obl2 (c := cI.i64) (xs := g81_) (ys := [b86_]) cI.i64_len h112) .nil)))))) ?_
          refine Wc.region [] [] [1, 2, 6, 7] [2] [] ⟨[(1, (.v (.sl (List.map cI.i64 g80_)), [])), (2, (.ptr 2 0, [])), (6, (.v (.sl (List.map cI.i64 (g81_ ++ [b86_]))), [(0, .app 3)])), (7, (.v (.int .i64 (wr.i64 (b82_ + 1))), []))], [(2, .cells [.int .i64 c79_.gKind, .str c79_.gName, .int .i64 c79_.gNum, .sl (List.map GTerm.c c79_.gKids)] [])], []⟩ _ (by kernel_rfl) .nil ?_
          exact ⟨_, Nat.lt_succ_self _, _, _, rfl, h106⟩
        · refine Wc.condF h110 (by kernel_rfl) ?_
          refine Wc.fix (st' := ⟨[(1, (.v (.sl (List.map cI.i64 g80_)), [])), (2, (.ptr 2 0, [])), (6, (.v (.sl (List.map cI.i64 g81_)), [(0, .app 3)])), (7, (.v (.int .i64 b82_), []))], [(2, .cells [.int .i64 c79_.gKind, .str c79_.gName, .int .i64 c79_.gNum, .sl (List.map GTerm.c c79_.gKids)] [])], []⟩) [] [1, 2, 6, 7] [2] [] (by kernel_rfl) ?_
          refine Wc.skip ?_
          refine Wc.region [] [] [1, 2, 6, 7] [2] [] ⟨[(1, (.v (.sl (List.map cI.i64 g80_)), [])), (2, (.ptr 2 0, [])), (6, (.v (.sl (List.map cI.i64 g81_)), [(0, .app 3)])), (7, (.v (.int .i64 (wr.i64 (b82_ + 1))), []))], [(2, .cells [.int .i64 c79_.gKind, .str c79_.gName, .int .i64 c79_.gNum, .sl (List.map GTerm.c c79_.gKids)] [])], []⟩ _ (by kernel_rfl) .nil ?_
          exact ⟨_, Nat.lt_succ_self _, _, _, rfl, h106⟩
      · refine Wc.condF h107 (by kernel_rfl) ?_
        refine Wc.fix (st' := ⟨[(2, (.ptr 2 0, [])), (6, (.v (.sl (List.map cI.i64 g81_)), [(0, .app 3)]))], [(2, .cells [.int .i64 c79_.gKind, .str c79_.gName, .int .i64 c79_.gNum, .sl (List.map GTerm.c c79_.gKids)] [])], []⟩) [] [2, 6] [2] [] (by kernel_rfl) ?_
        refine Wc.exit ?_
        obtain rfl := Option.some.inj h106
        exact ⟨_, rfl, rfl⟩
  · rintro st ⟨g83_, rfl, rfl⟩
    refine Wc.seq ?_
    refine Wc.seq ?_
    obtain ⟨f87_, h113, h⟩ := obind h
    refine Wc.region [{}, { r := some (.v (.bool f87_) []) }] [] [2, 6, 31] [2] [] ⟨[(2, (.ptr 2 0, [])), (6, (.v (.sl (List.map cI.i64 g83_)), [(0, .app 3)])), (31, (.v (.bool (!f87_)), []))], [(2, .cells [.int .i64 c79_.gKind, .str c79_.gName, .int .i64 c79_.gNum, .sl (List.map GTerm.c c79_.gKids)] [])], []⟩ _ (by kernel_rfl) (.cons (cspec_TermOk h113) .nil) ?_
    rcases oif h with ⟨h114, h⟩ | ⟨h114, h⟩
    · refine Wc.condT h114 (by kernel_rfl) ?_
      refine Wc.seq ?_
      refine Wc.region [{ c := some (List.map GIns.c []) }, { tk := [6] }, { tk := [32] }, { tk := [33] }] [] [4, 5] [] [] ⟨[(4, (.v (.sl (List.map GIns.c [])), [(0, .app 158)])), (5, (.v (.sl (List.map cI.i64 g83_)), [(0, .app 3)]))], [], []⟩ _ (by kernel_rfl) (.cons (cl_nil GIns.c) .nil) ?_
      refine Wc.fix (st' := ⟨[(4, (.v (.sl (List.map GIns.c [])), [])), (5, (.v (.sl (List.map cI.i64 g83_)), []))], [], []⟩) [.un (.t 4 0), .un (.t 5 0)] [4, 5] [] [] (by kernel_rfl) ?_
      refine Wc.ret ?_
      obtain rfl := Option.some.inj h
      exact ⟨.inl rfl, by kernel_rfl, by kernel_rfl⟩
    · refine Wc.condF h114 (by kernel_rfl) ?_
      refine Wc.fix (st' := ⟨[(2, (.ptr 2 0, [])), (6, (.v (.sl (List.map cI.i64 g83_)), [(0, .app 3)]))], [(2, .cells [.int .i64 c79_.gKind, .str c79_.gName, .int .i64 c79_.gNum, .sl (List.map GTerm.c c79_.gKids)] [])], []⟩) [] [2, 6] [2] [] (by kernel_rfl) ?_
      refine Wc.skip ?_
      refine Wc.seq ?_
      obtain ⟨j88_, h115, h⟩ := obind h
      refine Wc.region [{}, { c := some (List.map GIns.c []), md := 1 }, { tk := [6] }, { tk := [35], r := some (.v (.tup [.slx, .sl (List.map cI.i64 j88_.2)]) [(0, .ex 158 false (List.map GIns.c j88_.1))]) }, { tk := [37] }, {}, { tk := [38] }] [] [4, 5] [] [] ⟨[(4, (.v (.slx), [(0, .ex 158 false (List.map GIns.c j88_.1))])), (5, (.v (.sl (List.map cI.i64 j88_.2)), []))], [], []⟩ _ (by kernel_rfl) (.cons (cl_nil GIns.c) (.cons (cspec_l12Words h115) .nil)) ?_
      refine Wc.fix (st' := ⟨[(4, (.v (.sl (List.map GIns.c j88_.1)), [])), (5, (.v (.sl (List.map cI.i64 j88_.2)), []))], [], []⟩) [.sh (.t 4 0)] [4, 5] [] [] (by kernel_rfl) ?_
      refine Wc.ret ?_
      obtain rfl := Option.some.inj h
      exact ⟨.inl rfl, by kernel_rfl, by kernel_rfl⟩

def pspec_l03Vars_L2 (k : Nat) (rspec_l03Vars : GTerm → (List Int) → Option (List Int)) (c99_ : GTerm) : Nat → (List Int) → Int → Option (Out (List Int) (List Int))
  | 0, _, _ => none
  | m + 1, g102_, b103_ =>
    if (decide (b103_ < (c99_.gKids.length : Int))) = true then
      (at' c99_.gKids b103_).bind fun c105_ =>
      (rspec_l03Vars c105_ g102_).bind fun l106_ =>
      pspec_l03Vars_L2 k rspec_l03Vars c99_ m l106_ (wr.i64 (b103_ + 1))
    else
      some (.done g102_)
def pspec_l03Vars_J1 (k : Nat) (rspec_l03Vars : GTerm → (List Int) → Option (List Int)) (c99_ : GTerm) (g101_ : List Int) : Option (List Int) :=
  (pspec_l03Vars_L2 k rspec_l03Vars c99_ k g101_ 0).bind fun out2 => match out2 with
  | .ret r => some r
  | .done g104_ =>
    some g104_
def pspec_l03Vars_J3 (k : Nat) (rspec_l03Vars : GTerm → (List Int) → Option (List Int)) (g100_ : List Int) (c99_ : GTerm) (f107_ : Bool) : Option (List Int) :=
  if f107_ = true then
    if g100_.length + [c99_.gNum].length ≤ 1073741824 then
      pspec_l03Vars_J1 k rspec_l03Vars c99_ (g100_ ++ [c99_.gNum])
    else none
  else
    pspec_l03Vars_J1 k rspec_l03Vars c99_ g100_
mutual
/-- spec.l03Vars -/
def pspec_l03Vars : Nat → GTerm → (List Int) → Option (List Int)
  | 0, _, _ => none
  | k + 1, c99_, g100_ =>
    if (c99_.gKind == 1) = true then
      (pspec_l03Has k g100_ c99_.gNum).bind fun f108_ =>
      pspec_l03Vars_J3 k (pspec_l03Vars k) g100_ c99_ (!f108_)
    else
      pspec_l03Vars_J3 k (pspec_l03Vars k) g100_ c99_ false
end
theorem all_pspec_l03Vars : ∀ k : Nat, (∀ {c99_ : GTerm} {g100_ : List Int} {r : (List Int)}, pspec_l03Vars k c99_ g100_ = some r → FnO Try.prog 142 [.v (.agg [.int .i64 c99_.gKind, .str c99_.gName, .int .i64 c99_.gNum, .sl (List.map GTerm.c c99_.gKids)]) [], .v (.slx) [(0, .ex 3 false (List.map cI.i64 g100_))]] (.v (.slx) [(0, .ex 3 false (List.map cI.i64 r))]) []) := by
  intro k
  induction k with
  | zero =>
    · intro c99_ g100_ r h
      exact (onone (by rw [pspec_l03Vars] at h; exact h)).elim
  | succ k ih =>
    have ih_pspec_l03Vars := @ih
    · intro c99_ g100_ r h
      rw [pspec_l03Vars] at h
      refine FnO.of Try.func142 (rfl : Try.f142.body = some _) (Nat.le_of_ble_eq_true (by kernel_rfl)) (Nat.le_of_ble_eq_true (by kernel_rfl)) ?_
      intro w0 X0 Fin pv0 pb
      refine Wc.seq ?_
      refine Wc.region [] [] [1, 2] [2] [] ⟨[(1, (.v (.slx), [(0, .ex 3 false (List.map cI.i64 g100_))])), (2, (.ptr 2 0, []))], [(2, .cells [.int .i64 c99_.gKind, .str c99_.gName, .int .i64 c99_.gNum, .sl (List.map GTerm.c c99_.gKids)] [])], []⟩ _ (by kernel_rfl) .nil ?_
      refine Wc.seqJ (fun st => ∃ (g101_ : List Int), st = ⟨[(1, (.v (.slx), [(0, .ex 3 false (List.map cI.i64 g101_))])), (2, (.ptr 2 0, []))], [(2, .cells [.int .i64 c99_.gKind, .str c99_.gName, .int .i64 c99_.gNum, .sl (List.map GTerm.c c99_.gKids)] [])], []⟩ ∧ pspec_l03Vars_J1 k (pspec_l03Vars k) c99_ g101_ = some r) ?_ ?_
      · refine Wc.seqJ (fun st => ∃ (f107_ : Bool), st = ⟨[(1, (.v (.slx), [(0, .ex 3 false (List.map cI.i64 g100_))])), (2, (.ptr 2 0, [])), (15, (.v (.bool f107_), []))], [(2, .cells [.int .i64 c99_.gKind, .str c99_.gName, .int .i64 c99_.gNum, .sl (List.map GTerm.c c99_.gKids)] [])], []⟩ ∧ pspec_l03Vars_J3 k (pspec_l03Vars k) g100_ c99_ f107_ = some r) ?_ ?_
        · rcases oif h with ⟨h130, h⟩ | ⟨h130, h⟩
          · obtain ⟨f108_, h131, h⟩ := obind h
            refine Wc.region [{}, {}, {}, { re := some (.bool true) }, {}, {}, {}, { r := some (.v (.bool f108_) []) }] [] [1, 2, 15] [2] [] ⟨[(1, (.v (.slx), [(0, .ex 3 false (List.map cI.i64 g100_))])), (2, (.ptr 2 0, [])), (15, (.v (.bool (!f108_)), []))], [(2, .cells [.int .i64 c99_.gKind, .str c99_.gName, .int .i64 c99_.gNum, .sl (List.map GTerm.c c99_.gKids)] [])], []⟩ _ (by kernel_rfl) (.cons (congrArg AV.bool h130) (.cons (cspec_l03Has h131) .nil)) ?_
            exact ⟨_, rfl, h⟩
          · refine Wc.region [{}, {}, {}, { re := some (.bool false) }] [] [1, 2, 15] [2] [] ⟨[(1, (.v (.slx), [(0, .ex 3 false (List.map cI.i64 g100_))])), (2, (.ptr 2 0, [])), (15, (.v (.bool false), []))], [(2, .cells [.int .i64 c99_.gKind, .str c99_.gName, .int .i64 c99_.gNum, .sl (List.map GTerm.c c99_.gKids)] [])], []⟩ _ (by kernel_rfl) (.cons (congrArg AV.bool h130) .nil) ?_
            exact ⟨_, rfl, h⟩
        · rintro st ⟨f107_, rfl, h⟩
          rcases oif h with ⟨h128, h⟩ | ⟨h128, h⟩
          · refine Wc.condT h128 (by kernel_rfl) ?_
            obtain ⟨h129, h⟩ := oguard h
            refine Wc.region [{ tk := [1] }, {}, {}, { c := some (List.map cI.i64 [c99_.gNum]) }, { c := some (List.map cI.i64 (g100_ ++ [c99_.gNum])), tk := [16], md := 1 }, { tk := [20] }] [] [1, 2] [2] [] ⟨[(1, (.v (.slx), [(0, .ex 3 false (List.map cI.i64 (g100_ ++ [c99_.gNum])))])), (2, (.ptr 2 0, []))], [(2, .cells [.int .i64 c99_.gKind, .str c99_.gName, .int .i64 c99_.gNum, .sl (List.map GTerm.c c99_.gKids)] [])], []⟩ _ (by kernel_rfl) (.cons (cl_cons (c := cI.i64) (x := c99_.gNum) rfl (cl_nil cI.i64)) (.cons (app_re2 cI.i64 g100_ [c99_.gNum]) (.cons (app_leaf (c := cI.i64) (ys := [c99_.gNum]) cI.i64_leaf) (.cons (app_obl2 (c := cI.i64) (xs := g100_) (ys := [c99_.gNum]) cI.i64_len h129) .nil)))) ?_
            exact ⟨_, rfl, h⟩
          · refine Wc.condF h128 (by kernel_rfl) ?_
            refine Wc.fix (st' := ⟨[(1, (.v (.slx), [(0, .ex 3 false (List.map cI.i64 g100_))])), (2, (.ptr 2 0, []))], [(2, .cells [.int .i64 c99_.gKind, .str c99_.gName, .int .i64 c99_.gNum, .sl (List.map GTerm.c c99_.gKids)] [])], []⟩) [] [1, 2] [2] [] (by kernel_rfl) ?_
            refine Wc.skip ?_
            exact ⟨_, rfl, h⟩
      · rintro st ⟨g101_, rfl, h⟩
        refine Wc.seq ?_
        refine Wc.seq ?_
        refine Wc.region [] [] [1, 2, 5] [2] [] ⟨[(1, (.v (.slx), [(0, .ex 3 false (List.map cI.i64 g101_))])), (2, (.ptr 2 0, [])), (5, (.v (.int .i64 0), []))], [(2, .cells [.int .i64 c99_.gKind, .str c99_.gName, .int .i64 c99_.gNum, .sl (List.map GTerm.c c99_.gKids)] [])], []⟩ _ (by kernel_rfl) .nil ?_
        obtain ⟨out2, h124, h⟩ := obind h
        refine Wc.lastJ (fun st => ∃ (g104_ : List Int), out2 = .done g104_ ∧ st = ⟨[(1, (.v (.slx), [(0, .ex 3 false (List.map cI.i64 g104_))]))], [], []⟩) ?_ ?_
        · refine Wc.block ?_
          refine Wc.loop (fun m st => ∃ (g102_ : List Int) (b103_ : Int), st = ⟨[(1, (.v (.slx), [(0, .ex 3 false (List.map cI.i64 g102_))])), (2, (.ptr 2 0, [])), (5, (.v (.int .i64 b103_), []))], [(2, .cells [.int .i64 c99_.gKind, .str c99_.gName, .int .i64 c99_.gNum, .sl (List.map GTerm.c c99_.gKids)] [])], []⟩ ∧ pspec_l03Vars_L2 k (pspec_l03Vars k) c99_ m g102_ b103_ = some out2) ?_ k ⟨_, _, rfl, h124⟩
          rintro m st ⟨g102_, b103_, rfl, h124⟩
          cases m with
          | zero => exact (onone h124).elim
          | succ m =>
            refine Wc.seq ?_
            refine Wc.seq ?_
            refine Wc.region [{}, {}, {}, { v := some (.int .i64 (c99_.gKids.length : Int)) }] [] [1, 2, 5, 25] [2] [] ⟨[(1, (.v (.slx), [(0, .ex 3 false (List.map cI.i64 g102_))])), (2, (.ptr 2 0, [])), (5, (.v (.int .i64 b103_), [])), (25, (.v (.bool (decide (b103_ < (c99_.gKids.length : Int)))), []))], [(2, .cells [.int .i64 c99_.gKind, .str c99_.gName, .int .i64 c99_.gNum, .sl (List.map GTerm.c c99_.gKids)] [])], []⟩ _ (by kernel_rfl) (.cons (len_obl GTerm.c c99_.gKids) .nil) ?_
            rcases oif h124 with ⟨h125, h124⟩ | ⟨h125, h124⟩
            · refine Wc.condT h125 (by kernel_rfl) ?_
              refine Wc.fix (st' := ⟨[(1, (.v (.slx), [(0, .ex 3 false (List.map cI.i64 g102_))])), (2, (.ptr 2 0, [])), (5, (.v (.int .i64 b103_), []))], [(2, .cells [.int .i64 c99_.gKind, .str c99_.gName, .int .i64 c99_.gNum, .sl (List.map GTerm.c c99_.gKids)] [])], []⟩) [] [1, 2, 5] [2] [] (by kernel_rfl) ?_
              refine Wc.skip ?_
              refine Wc.seq ?_
              refine Wc.block ?_
              obtain ⟨c105_, h126, h124⟩ := obind h124
              obtain ⟨l106_, h127, h124⟩ := obind h124
              refine Wc.region [{}, {}, {}, { v := some (.vptr [.int .i64 c105_.gKind, .str c105_.gName, .int .i64 c105_.gNum, .sl (List.map GTerm.c c105_.gKids)]) }, {}, { tk := [1] }, { tk := [33], r := some (.v (.slx) [(0, .ex 3 false (List.map cI.i64 l106_))]) }, { tk := [34] }] [] [1, 2, 5] [2] [] ⟨[(1, (.v (.slx), [(0, .ex 3 false (List.map cI.i64 l106_))])), (2, (.ptr 2 0, [])), (5, (.v (.int .i64 b103_), []))], [(2, .cells [.int .i64 c99_.gKind, .str c99_.gName, .int .i64 c99_.gNum, .sl (List.map GTerm.c c99_.gKids)] [])], []⟩ _ (by kernel_rfl) (.cons (at_obl (c := GTerm.c) (GTerm.c_eq c105_) GTerm.c_len h126) (.cons (len_ok 4 [.int .i64 c105_.gKind, .str c105_.gName, .int .i64 c105_.gNum, .sl (List.map GTerm.c c105_.gKids)]) (.cons (ih_pspec_l03Vars h127) .nil))) ?_
              refine Wc.region [] [] [1, 2, 5] [2] [] ⟨[(1, (.v (.slx), [(0, .ex 3 false (List.map cI.i64 l106_))])), (2, (.ptr 2 0, [])), (5, (.v (.int .i64 (wr.i64 (b103_ + 1))), []))], [(2, .cells [.int .i64 c99_.gKind, .str c99_.gName, .int .i64 c99_.gNum, .sl (List.map GTerm.c c99_.gKids)] [])], []⟩ _ (by kernel_rfl) .nil ?_
              exact ⟨_, Nat.lt_succ_self _, _, _, rfl, h124⟩
            · refine Wc.condF h125 (by kernel_rfl) ?_
              refine Wc.fix (st' := ⟨[(1, (.v (.slx), [(0, .ex 3 false (List.map cI.i64 g102_))]))], [], []⟩) [] [1] [] [] (by kernel_rfl) ?_
              refine Wc.exit ?_
              obtain rfl := Option.some.inj h124
              exact ⟨_, rfl, rfl⟩
        · rintro st ⟨g104_, rfl, rfl⟩
          refine Wc.seq ?_
          refine Wc.region [{ tk := [1] }, { tk := [35] }] [] [4] [] [] ⟨[(4, (.v (.slx), [(0, .ex 3 false (List.map cI.i64 g104_))]))], [], []⟩ _ (by kernel_rfl) .nil ?_
          refine Wc.ret ?_
          obtain rfl := Option.some.inj h
          exact ⟨.inl rfl, by kernel_rfl, by kernel_rfl⟩
theorem cspec_l03Vars {k : Nat} {c99_ : GTerm} {g100_ : List Int} {r : (List Int)} (h : pspec_l03Vars k c99_ g100_ = some r) : FnO Try.prog 142 [.v (.agg [.int .i64 c99_.gKind, .str c99_.gName, .int .i64 c99_.gNum, .sl (List.map GTerm.c c99_.gKids)]) [], .v (.slx) [(0, .ex 3 false (List.map cI.i64 g100_))]] (.v (.slx) [(0, .ex 3 false (List.map cI.i64 r))]) [] := (all_pspec_l03Vars k) h

/-- spec.VarsOf -/
def pspec_VarsOf (k : Nat) (c109_ : GTerm) : Option (List Int) :=
  (pspec_l03Vars k c109_ []).bind fun l110_ =>
  some l110_
theorem cspec_VarsOf {k : Nat} {c109_ : GTerm} {r : (List Int)} (h : pspec_VarsOf k c109_ = some r) : FnO Try.prog 123 [.v (.agg [.int .i64 c109_.gKind, .str c109_.gName, .int .i64 c109_.gNum, .sl (List.map GTerm.c c109_.gKids)]) []] (.v (.sl (List.map cI.i64 r)) []) [] := by
  refine FnO.of Try.func123 (rfl : Try.f123.body = some _) (Nat.le_of_ble_eq_true (by kernel_rfl)) (Nat.le_of_ble_eq_true (by kernel_rfl)) ?_
  intro w0 X0 Fin pv0 pb
  unfold pspec_VarsOf at h
  refine Wc.seq ?_
  refine Wc.region [] [] [1] [1] [] ⟨[(1, (.ptr 1 0, []))], [(1, .cells [.int .i64 c109_.gKind, .str c109_.gName, .int .i64 c109_.gNum, .sl (List.map GTerm.c c109_.gKids)] [])], []⟩ _ (by kernel_rfl) .nil ?_
  refine Wc.seq ?_
  obtain ⟨l110_, h132, h⟩ := obind h
  refine Wc.region [{}, { c := some (List.map cI.i64 []), md := 1 }, { tk := [4], r := some (.v (.slx) [(0, .ex 3 false (List.map cI.i64 l110_))]) }, { tk := [5] }] [] [2] [] [] ⟨[(2, (.v (.slx), [(0, .ex 3 false (List.map cI.i64 l110_))]))], [], []⟩ _ (by kernel_rfl) (.cons (cl_nil cI.i64) (.cons (cspec_l03Vars h132) .nil)) ?_
  refine Wc.fix (st' := ⟨[(2, (.v (.sl (List.map cI.i64 l110_)), []))], [], []⟩) [.sh (.t 2 0)] [2] [] [] (by kernel_rfl) ?_
  refine Wc.ret ?_
  obtain rfl := Option.some.inj h
  exact ⟨.inl rfl, by kernel_rfl, by kernel_rfl⟩

/-- spec.l03Two -/
def pspec_l03Two (k : Nat) (e114_ : ByteArray) (c115_ : GTerm) (c116_ : GTerm) : Option GTerm :=
  some (GTerm.mk 4 e114_ 0 [c115_, c116_])
theorem cspec_l03Two {k : Nat} {e114_ : ByteArray} {c115_ : GTerm} {c116_ : GTerm} {r : GTerm} (h : pspec_l03Two k e114_ c115_ c116_ = some r) : FnO Try.prog 157 [.v (.str e114_) [], .v (.agg [.int .i64 c115_.gKind, .str c115_.gName, .int .i64 c115_.gNum, .sl (List.map GTerm.c c115_.gKids)]) [], .v (.agg [.int .i64 c116_.gKind, .str c116_.gName, .int .i64 c116_.gNum, .sl (List.map GTerm.c c116_.gKids)]) []] (.v (.agg [.int .i64 r.gKind, .str r.gName, .int .i64 r.gNum, .sl (List.map GTerm.c r.gKids)]) [(3, .app 42)]) [] := by
  refine FnO.of Try.func157 (rfl : Try.f157.body = some _) (Nat.le_of_ble_eq_true (by kernel_rfl)) (Nat.le_of_ble_eq_true (by kernel_rfl)) ?_
  intro w0 X0 Fin pv0 pb
  unfold pspec_l03Two at h
  refine Wc.seq ?_
  refine Wc.region [] [] [0, 4, 5, 6] [4, 5, 6] [] ⟨[(0, (.v (.str e114_), [])), (4, (.ptr 4 0, [])), (5, (.ptr 5 0, [])), (6, (.ptr 6 0, []))], [(4, .cells [.int .i64 c115_.gKind, .str c115_.gName, .int .i64 c115_.gNum, .sl (List.map GTerm.c c115_.gKids)] []), (5, .cells [.int .i64 c116_.gKind, .str c116_.gName, .int .i64 c116_.gNum, .sl (List.map GTerm.c c116_.gKids)] []), (6, .cells [.int .i64 0, .str (bs []), .int .i64 0, .sl (List.map GTerm.c [])] [(3, .app 42)])], []⟩ _ (by kernel_rfl) .nil ?_
  refine Wc.seq ?_
  refine Wc.region [{}, {}, {}, { c := some (List.map GTerm.c [c115_, c116_]) }, { tk := [10] }, { tk := [11] }] [] [6] [6] [] ⟨[(6, (.ptr 6 0, []))], [(6, .cells [.int .i64 4, .str e114_, .int .i64 0, .sl (List.map GTerm.c [c115_, c116_])] [(3, .app 42)])], []⟩ _ (by kernel_rfl) (.cons (cl_cons (c := GTerm.c) (x := c115_) (GTerm.c_eq c115_) (cl_cons (c := GTerm.c) (x := c116_) (GTerm.c_eq c116_) (cl_nil GTerm.c))) .nil) ?_
  refine Wc.ret ?_
  obtain rfl := Option.some.inj h
  exact ⟨.inl rfl, by kernel_rfl, by kernel_rfl⟩

/-- spec.l08ClauseTermRaw -/
def pspec_l08ClauseTermRaw (k : Nat) (d119_ : GClause) : Option GTerm :=
  (pspec_l03Two k (bs [58, 45]) d119_.gHead d119_.gBody).bind fun c120_ =>
  some c120_
theorem cspec_l08ClauseTermRaw {k : Nat} {d119_ : GClause} {r : GTerm} (h : pspec_l08ClauseTermRaw k d119_ = some r) : FnO Try.prog 143 [.v (.agg [.int .i64 d119_.gHead.gKind, .str d119_.gHead.gName, .int .i64 d119_.gHead.gNum, .sl (List.map GTerm.c d119_.gHead.gKids), .int .i64 d119_.gBody.gKind, .str d119_.gBody.gName, .int .i64 d119_.gBody.gNum, .sl (List.map GTerm.c d119_.gBody.gKids), .str d119_.gFile]) []] (.v (.agg [.int .i64 r.gKind, .str r.gName, .int .i64 r.gNum, .sl (List.map GTerm.c r.gKids)]) [(3, .app 42)]) [] := by
  refine FnO.of Try.func143 (rfl : Try.f143.body = some _) (Nat.le_of_ble_eq_true (by kernel_rfl)) (Nat.le_of_ble_eq_true (by kernel_rfl)) ?_
  intro w0 X0 Fin pv0 pb
  unfold pspec_l08ClauseTermRaw at h
  refine Wc.seq ?_
  refine Wc.region [] [] [1, 2] [1, 2] [] ⟨[(1, (.ptr 1 0, [])), (2, (.ptr 2 0, []))], [(1, .cells [.int .i64 d119_.gHead.gKind, .str d119_.gHead.gName, .int .i64 d119_.gHead.gNum, .sl (List.map GTerm.c d119_.gHead.gKids), .int .i64 d119_.gBody.gKind, .str d119_.gBody.gName, .int .i64 d119_.gBody.gNum, .sl (List.map GTerm.c d119_.gBody.gKids), .str d119_.gFile] []), (2, .cells [.int .i64 0, .str (bs []), .int .i64 0, .sl (List.map GTerm.c [])] [(3, .app 42)])], []⟩ _ (by kernel_rfl) .nil ?_
  refine Wc.seq ?_
  obtain ⟨c120_, h134, h⟩ := obind h
  refine Wc.region [{}, {}, {}, {}, { r := some (.v (.agg [.int .i64 c120_.gKind, .str c120_.gName, .int .i64 c120_.gNum, .sl (List.map GTerm.c c120_.gKids)]) [(3, .app 42)]) }, { tk := [7] }] [] [2] [2] [] ⟨[(2, (.ptr 2 0, []))], [(2, .cells [.int .i64 c120_.gKind, .str c120_.gName, .int .i64 c120_.gNum, .sl (List.map GTerm.c c120_.gKids)] [(3, .app 42)])], []⟩ _ (by kernel_rfl) (.cons (cspec_l03Two h134) .nil) ?_
  refine Wc.ret ?_
  obtain rfl := Option.some.inj h
  exact ⟨.inl rfl, by kernel_rfl, by kernel_rfl⟩

def pspec_l34Terms_L1 (k : Nat) (rspec_l34Term : GTerm → Option GTerm) (rspec_l34Terms : (List GTerm) → Option (List GTerm)) (a139_ : List GTerm) : Nat → (List GTerm) → Int → Option (Out (List GTerm) (List GTerm))
  | 0, _, _ => none
  | m + 1, a140_, b141_ =>
    if (decide (b141_ < (a139_.length : Int))) = true then
      (at' a139_ b141_).bind fun c143_ =>
      (rspec_l34Term c143_).bind fun c144_ =>
      if a140_.length + [c144_].length ≤ 1073741824 then
        pspec_l34Terms_L1 k rspec_l34Term rspec_l34Terms a139_ m (a140_ ++ [c144_]) (wr.i64 (b141_ + 1))
      else none
    else
      some (.done a140_)
mutual
/-- spec.l34Term -/
def pspec_l34Term : Nat → GTerm → Option GTerm
  | 0, _ => none
  | k + 1, c137_ =>
    (pspec_l34Terms k c137_.gKids).bind fun m138_ =>
    some (GTerm.mk c137_.gKind c137_.gName c137_.gNum m138_)
/-- spec.l34Terms -/
def pspec_l34Terms : Nat → (List GTerm) → Option (List GTerm)
  | 0, _ => none
  | k + 1, a139_ =>
    (pspec_l34Terms_L1 k (pspec_l34Term k) (pspec_l34Terms k) a139_ k [] 0).bind fun out1 => match out1 with
    | .ret r => some r
    | .done a142_ =>
      some a142_
end
theorem all_pspec_l34Term : ∀ k : Nat, (∀ {c137_ : GTerm} {r : GTerm}, pspec_l34Term k c137_ = some r → FnO Try.prog 144 [.v (.agg [.int .i64 c137_.gKind, .str c137_.gName, .int .i64 c137_.gNum, .sl (List.map GTerm.c c137_.gKids)]) []] (.v (.agg [.int .i64 r.gKind, .str r.gName, .int .i64 r.gNum, .sl (List.map GTerm.c r.gKids)]) [(3, .app 42)]) []) ∧
    (∀ {a139_ : List GTerm} {r : (List GTerm)}, pspec_l34Terms k a139_ = some r → FnO Try.prog 158 [.v (.sl (List.map GTerm.c a139_)) []] (.v (.sl (List.map GTerm.c r)) [(0, .app 42)]) []) := by
  intro k
  induction k with
  | zero =>
    refine ⟨?_, ?_⟩
    · intro c137_ r h
      exact (onone (by rw [pspec_l34Term] at h; exact h)).elim
    · intro a139_ r h
      exact (onone (by rw [pspec_l34Terms] at h; exact h)).elim
  | succ k ih =>
    obtain ⟨ih_pspec_l34Term, ih_pspec_l34Terms⟩ := ih
    refine ⟨?_, ?_⟩
    · intro c137_ r h
      rw [pspec_l34Term] at h
      refine FnO.of Try.func144 (rfl : Try.f144.body = some _) (Nat.le_of_ble_eq_true (by kernel_rfl)) (Nat.le_of_ble_eq_true (by kernel_rfl)) ?_
      intro w0 X0 Fin pv0 pb
      refine Wc.seq ?_
      refine Wc.region [] [] [1, 2] [1, 2] [] ⟨[(1, (.ptr 1 0, [])), (2, (.ptr 2 0, []))], [(1, .cells [.int .i64 c137_.gKind, .str c137_.gName, .int .i64 c137_.gNum, .sl (List.map GTerm.c c137_.gKids)] []), (2, .cells [.int .i64 0, .str (bs []), .int .i64 0, .sl (List.map GTerm.c [])] [(3, .app 42)])], []⟩ _ (by kernel_rfl) .nil ?_
      refine Wc.seq ?_
      obtain ⟨m138_, h147, h⟩ := obind h
      refine Wc.region [{}, {}, { r := some (.v (.sl (List.map GTerm.c m138_)) [(0, .app 42)]) }, {}, { tk := [5] }] [] [1, 2] [1, 2] [] ⟨[(1, (.ptr 1 0, [])), (2, (.ptr 2 0, []))], [(1, .cells [.int .i64 c137_.gKind, .str c137_.gName, .int .i64 c137_.gNum, .sl (List.map GTerm.c m138_)] [(3, .app 42)]), (2, .cells [.int .i64 0, .str (bs []), .int .i64 0, .sl (List.map GTerm.c [])] [(3, .app 42)])], []⟩ _ (by kernel_rfl) (.cons (ih_pspec_l34Terms h147) .nil) ?_
      refine Wc.seq ?_
      refine Wc.region [{ md := 1 }, { tk := [7] }] [] [2] [2] [] ⟨[(2, (.ptr 2 0, []))], [(2, .cells [.int .i64 c137_.gKind, .str c137_.gName, .int .i64 c137_.gNum, .sl (List.map GTerm.c m138_)] [(3, .app 42)])], []⟩ _ (by kernel_rfl) .nil ?_
      refine Wc.ret ?_
      obtain rfl := Option.some.inj h
      exact ⟨.inl rfl, by kernel_rfl, by kernel_rfl⟩
    · intro a139_ r h
      rw [pspec_l34Terms] at h
      refine FnO.of Try.func158 (rfl : Try.f158.body = some _) (Nat.le_of_ble_eq_true (by kernel_rfl)) (Nat.le_of_ble_eq_true (by kernel_rfl)) ?_
      intro w0 X0 Fin pv0 pb
      refine Wc.seq ?_
      refine Wc.region [] [] [0] [] [] ⟨[(0, (.v (.sl (List.map GTerm.c a139_)), []))], [], []⟩ _ (by kernel_rfl) .nil ?_
      refine Wc.seq ?_
      refine Wc.region [{ c := some (List.map GTerm.c []) }, { tk := [5] }] [] [0, 3] [] [] ⟨[(0, (.v (.sl (List.map GTerm.c a139_)), [])), (3, (.v (.sl (List.map GTerm.c [])), [(0, .app 42)]))], [], []⟩ _ (by kernel_rfl) (.cons (cl_nil GTerm.c) .nil) ?_
      refine Wc.seq ?_
      refine Wc.seq ?_
      refine Wc.region [] [] [0, 3, 4] [] [] ⟨[(0, (.v (.sl (List.map GTerm.c a139_)), [])), (3, (.v (.sl (List.map GTerm.c [])), [(0, .app 42)])), (4, (.v (.int .i64 0), []))], [], []⟩ _ (by kernel_rfl) .nil ?_
      obtain ⟨out1, h148, h⟩ := obind h
      refine Wc.lastJ (fun st => ∃ (a142_ : List GTerm), out1 = .done a142_ ∧ st = ⟨[(3, (.v (.sl (List.map GTerm.c a142_)), [(0, .app 42)]))], [], []⟩) ?_ ?_
      · refine Wc.block ?_
        refine Wc.loop (fun m st => ∃ (a140_ : List GTerm) (b141_ : Int), st = ⟨[(0, (.v (.sl (List.map GTerm.c a139_)), [])), (3, (.v (.sl (List.map GTerm.c a140_)), [(0, .app 42)])), (4, (.v (.int .i64 b141_), []))], [], []⟩ ∧ pspec_l34Terms_L1 k (pspec_l34Term k) (pspec_l34Terms k) a139_ m a140_ b141_ = some out1) ?_ k ⟨_, _, rfl, h148⟩
        rintro m st ⟨a140_, b141_, rfl, h148⟩
        cases m with
        | zero => exact (onone h148).elim
        | succ m =>
          refine Wc.seq ?_
          refine Wc.seq ?_
          refine Wc.region [{}, {}, { v := some (.int .i64 (a139_.length : Int)) }] [] [0, 3, 4, 9] [] [] ⟨[(0, (.v (.sl (List.map GTerm.c a139_)), [])), (3, (.v (.sl (List.map GTerm.c a140_)), [(0, .app 42)])), (4, (.v (.int .i64 b141_), [])), (9, (.v (.bool (decide (b141_ < (a139_.length : Int)))), []))], [], []⟩ _ (by kernel_rfl) (.cons (len_obl GTerm.c a139_) .nil) ?_
          rcases oif h148 with ⟨h149, h148⟩ | ⟨h149, h148⟩
          · refine Wc.condT h149 (by kernel_rfl) ?_
            refine Wc.fix (st' := ⟨[(0, (.v (.sl (List.map GTerm.c a139_)), [])), (3, (.v (.sl (List.map GTerm.c a140_)), [(0, .app 42)])), (4, (.v (.int .i64 b141_), []))], [], []⟩) [] [0, 3, 4] [] [] (by kernel_rfl) ?_
            refine Wc.skip ?_
            refine Wc.seq ?_
            refine Wc.block ?_
            obtain ⟨c143_, h150, h148⟩ := obind h148
            obtain ⟨c144_, h151, h148⟩ := obind h148
            obtain ⟨h152, h148⟩ := oguard h148
            refine Wc.region [{ tk := [3] }, {}, {}, { v := some (.vptr [.int .i64 c143_.gKind, .str c143_.gName, .int .i64 c143_.gNum, .sl (List.map GTerm.c c143_.gKids)]) }, {}, { r := some (.v (.agg [.int .i64 c144_.gKind, .str c144_.gName, .int .i64 c144_.gNum, .sl (List.map GTerm.c c144_.gKids)]) [(3, .app 42)]) }, { c := some (List.map GTerm.c [c144_]) }, { c := some (List.map GTerm.c (a140_ ++ [c144_])), tk := [12] }, { tk := [19] }] [] [0, 3, 4] [] [] ⟨[(0, (.v (.sl (List.map GTerm.c a139_)), [])), (3, (.v (.sl (List.map GTerm.c (a140_ ++ [c144_]))), [(0, .app 42)])), (4, (.v (.int .i64 b141_), []))], [], []⟩ _ (by kernel_rfl) (.cons (at_obl (c := GTerm.c) (GTerm.c_eq c143_) GTerm.c_len h150) (.cons (len_ok 4 [.int .i64 c143_.gKind, .str c143_.gName, .int .i64 c143_.gNum, .sl (List.map GTerm.c c143_.gKids)]) (.cons (ih_pspec_l34Term h151) (.cons (cl_cons (c := GTerm.c) (x := c144_) (GTerm.c_eq c144_) (cl_nil GTerm.c)) (.cons (app_re2 GTerm.c a140_ [c144_]) (.cons (app_leaf (c := GTerm.c) (ys := [c144_]) GTerm.c_leaf) (.cons (app_obl2 (c := GTerm.c) (xs := a140_) (ys := [c144_]) GTerm.c_len h152) .nil))))))) ?_
            refine Wc.region [] [] [0, 3, 4] [] [] ⟨[(0, (.v (.sl (List.map GTerm.c a139_)), [])), (3, (.v (.sl (List.map GTerm.c (a140_ ++ [c144_]))), [(0, .app 42)])), (4, (.v (.int .i64 (wr.i64 (b141_ + 1))), []))], [], []⟩ _ (by kernel_rfl) .nil ?_
            exact ⟨_, Nat.lt_succ_self _, _, _, rfl, h148⟩
          · refine Wc.condF h149 (by kernel_rfl) ?_
            refine Wc.fix (st' := ⟨[(3, (.v (.sl (List.map GTerm.c a140_)), [(0, .app 42)]))], [], []⟩) [] [3] [] [] (by kernel_rfl) ?_
            refine Wc.exit ?_
            obtain rfl := Option.some.inj h148
            exact ⟨_, rfl, rfl⟩
      · rintro st ⟨a142_, rfl, rfl⟩
        refine Wc.seq ?_
        refine Wc.region [{ tk := [3] }, { tk := [20] }] [] [2] [] [] ⟨[(2, (.v (.sl (List.map GTerm.c a142_)), [(0, .app 42)]))], [], []⟩ _ (by kernel_rfl) .nil ?_
        refine Wc.ret ?_
        obtain rfl := Option.some.inj h
        exact ⟨.inl rfl, by kernel_rfl, by kernel_rfl⟩
theorem cspec_l34Term {k : Nat} {c137_ : GTerm} {r : GTerm} (h : pspec_l34Term k c137_ = some r) : FnO Try.prog 144 [.v (.agg [.int .i64 c137_.gKind, .str c137_.gName, .int .i64 c137_.gNum, .sl (List.map GTerm.c c137_.gKids)]) []] (.v (.agg [.int .i64 r.gKind, .str r.gName, .int .i64 r.gNum, .sl (List.map GTerm.c r.gKids)]) [(3, .app 42)]) [] := (all_pspec_l34Term k).1 h
theorem cspec_l34Terms {k : Nat} {a139_ : List GTerm} {r : (List GTerm)} (h : pspec_l34Terms k a139_ = some r) : FnO Try.prog 158 [.v (.sl (List.map GTerm.c a139_)) []] (.v (.sl (List.map GTerm.c r)) [(0, .app 42)]) [] := (all_pspec_l34Term k).2 h

/-- spec.ClauseTerm -/
def pspec_ClauseTerm (k : Nat) (d148_ : GClause) : Option GTerm :=
  (pspec_l08ClauseTermRaw k d148_).bind fun c149_ =>
  (pspec_l34Term k c149_).bind fun c150_ =>
  some c150_
theorem cspec_ClauseTerm {k : Nat} {d148_ : GClause} {r : GTerm} (h : pspec_ClauseTerm k d148_ = some r) : FnO Try.prog 124 [.v (.agg [.int .i64 d148_.gHead.gKind, .str d148_.gHead.gName, .int .i64 d148_.gHead.gNum, .sl (List.map GTerm.c d148_.gHead.gKids), .int .i64 d148_.gBody.gKind, .str d148_.gBody.gName, .int .i64 d148_.gBody.gNum, .sl (List.map GTerm.c d148_.gBody.gKids), .str d148_.gFile]) []] (.v (.agg [.int .i64 r.gKind, .str r.gName, .int .i64 r.gNum, .sl (List.map GTerm.c r.gKids)]) [(3, .app 42)]) [] := by
  refine FnO.of Try.func124 (rfl : Try.f124.body = some _) (Nat.le_of_ble_eq_true (by kernel_rfl)) (Nat.le_of_ble_eq_true (by kernel_rfl)) ?_
  intro w0 X0 Fin pv0 pb
  unfold pspec_ClauseTerm at h
  refine Wc.seq ?_
  refine Wc.region [] [] [1, 2] [1, 2] [] ⟨[(1, (.ptr 1 0, [])), (2, (.ptr 2 0, []))], [(1, .cells [.int .i64 d148_.gHead.gKind, .str d148_.gHead.gName, .int .i64 d148_.gHead.gNum, .sl (List.map GTerm.c d148_.gHead.gKids), .int .i64 d148_.gBody.gKind, .str d148_.gBody.gName, .int .i64 d148_.gBody.gNum, .sl (List.map GTerm.c d148_.gBody.gKids), .str d148_.gFile] []), (2, .cells [.int .i64 0, .str (bs []), .int .i64 0, .sl (List.map GTerm.c [])] [(3, .app 42)])], []⟩ _ (by kernel_rfl) .nil ?_
  refine Wc.seq ?_
  obtain ⟨c149_, h155, h⟩ := obind h
  refine Wc.region [{}, { r := some (.v (.agg [.int .i64 c149_.gKind, .str c149_.gName, .int .i64 c149_.gNum, .sl (List.map GTerm.c c149_.gKids)]) [(3, .app 42)]) }, {}, { tk := [5] }] [] [2, 3] [2, 3] [] ⟨[(2, (.ptr 2 0, [])), (3, (.ptr 3 0, []))], [(2, .cells [.int .i64 0, .str (bs []), .int .i64 0, .sl (List.map GTerm.c [])] [(3, .app 42)]), (3, .cells [.int .i64 c149_.gKind, .str c149_.gName, .int .i64 c149_.gNum, .sl (List.map GTerm.c c149_.gKids)] [(3, .app 42)])], []⟩ _ (by kernel_rfl) (.cons (cspec_l08ClauseTermRaw h155) .nil) ?_
  refine Wc.seq ?_
  obtain ⟨c150_, h156, h⟩ := obind h
  refine Wc.region [{}, { r := some (.v (.agg [.int .i64 c150_.gKind, .str c150_.gName, .int .i64 c150_.gNum, .sl (List.map GTerm.c c150_.gKids)]) [(3, .app 42)]) }, { tk := [7] }] [] [2] [2] [] ⟨[(2, (.ptr 2 0, []))], [(2, .cells [.int .i64 c150_.gKind, .str c150_.gName, .int .i64 c150_.gNum, .sl (List.map GTerm.c c150_.gKids)] [(3, .app 42)])], []⟩ _ (by kernel_rfl) (.cons (cspec_l34Term h156) .nil) ?_
  refine Wc.ret ?_
  obtain rfl := Option.some.inj h
  exact ⟨.inl rfl, by kernel_rfl, by kernel_rfl⟩

def pspec_l11Many_L1 (k : Nat) (l153_ : (List Int)) : Nat → Int → Int → Option (Out Int Int)
  | 0, _, _ => none
  | m + 1, b154_, b155_ =>
    if (decide (b155_ < (l153_.length : Int))) = true then
      (at' l153_ b155_).bind fun b157_ =>
      if (decide (b157_ ≥ b154_)) = true then
        (at' l153_ b155_).bind fun b158_ =>
        pspec_l11Many_L1 k l153_ m (wr.i64 (b158_ + 1)) (wr.i64 (b155_ + 1))
      else
        pspec_l11Many_L1 k l153_ m b154_ (wr.i64 (b155_ + 1))
    else
      some (.done b154_)
/-- spec.l11Many -/
def pspec_l11Many (k : Nat) (d151_ : GClause) : Option Int :=
  (pspec_ClauseTerm k d151_).bind fun c152_ =>
  (pspec_VarsOf k c152_).bind fun l153_ =>
  (pspec_l11Many_L1 k l153_ k 0 0).bind fun out1 => match out1 with
  | .ret r => some r
  | .done b156_ =>
    some b156_
theorem cspec_l11Many {k : Nat} {d151_ : GClause} {r : Int} (h : pspec_l11Many k d151_ = some r) : FnO Try.prog 80 [.v (.agg [.int .i64 d151_.gHead.gKind, .str d151_.gHead.gName, .int .i64 d151_.gHead.gNum, .sl (List.map GTerm.c d151_.gHead.gKids), .int .i64 d151_.gBody.gKind, .str d151_.gBody.gName, .int .i64 d151_.gBody.gNum, .sl (List.map GTerm.c d151_.gBody.gKids), .str d151_.gFile]) []] (.v (.int .i64 r) []) [] := by
  refine FnO.of Try.func80 (rfl : Try.f80.body = some _) (Nat.le_of_ble_eq_true (by kernel_rfl)) (Nat.le_of_ble_eq_true (by kernel_rfl)) ?_
  intro w0 X0 Fin pv0 pb
  unfold pspec_l11Many at h
  refine Wc.seq ?_
  refine Wc.region [] [] [1] [1] [] ⟨[(1, (.ptr 1 0, []))], [(1, .cells [.int .i64 d151_.gHead.gKind, .str d151_.gHead.gName, .int .i64 d151_.gHead.gNum, .sl (List.map GTerm.c d151_.gHead.gKids), .int .i64 d151_.gBody.gKind, .str d151_.gBody.gName, .int .i64 d151_.gBody.gNum, .sl (List.map GTerm.c d151_.gBody.gKids), .str d151_.gFile] [])], []⟩ _ (by kernel_rfl) .nil ?_
  refine Wc.seq ?_
  refine Wc.region [] [] [1, 3] [1] [] ⟨[(1, (.ptr 1 0, [])), (3, (.v (.int .i64 0), []))], [(1, .cells [.int .i64 d151_.gHead.gKind, .str d151_.gHead.gName, .int .i64 d151_.gHead.gNum, .sl (List.map GTerm.c d151_.gHead.gKids), .int .i64 d151_.gBody.gKind, .str d151_.gBody.gName, .int .i64 d151_.gBody.gNum, .sl (List.map GTerm.c d151_.gBody.gKids), .str d151_.gFile] [])], []⟩ _ (by kernel_rfl) .nil ?_
  refine Wc.seq ?_
  obtain ⟨c152_, h157, h⟩ := obind h
  obtain ⟨l153_, h158, h⟩ := obind h
  refine Wc.region [{}, { r := some (.v (.agg [.int .i64 c152_.gKind, .str c152_.gName, .int .i64 c152_.gNum, .sl (List.map GTerm.c c152_.gKids)]) [(3, .app 42)]) }, { r := some (.v (.sl (List.map cI.i64 l153_)) []) }] [] [3, 4] [] [] ⟨[(3, (.v (.int .i64 0), [])), (4, (.v (.sl (List.map cI.i64 l153_)), []))], [], []⟩ _ (by kernel_rfl) (.cons (cspec_ClauseTerm h157) (.cons (cspec_VarsOf h158) .nil)) ?_
  refine Wc.seq ?_
  refine Wc.seq ?_
  refine Wc.region [] [] [3, 4, 5] [] [] ⟨[(3, (.v (.int .i64 0), [])), (4, (.v (.sl (List.map cI.i64 l153_)), [])), (5, (.v (.int .i64 0), []))], [], []⟩ _ (by kernel_rfl) .nil ?_
  obtain ⟨out1, h159, h⟩ := obind h
  refine Wc.lastJ (fun st => ∃ (b156_ : Int), out1 = .done b156_ ∧ st = ⟨[(3, (.v (.int .i64 b156_), []))], [], []⟩) ?_ ?_
  · refine Wc.block ?_
    refine Wc.loop (fun m st => ∃ (b154_ : Int) (b155_ : Int), st = ⟨[(3, (.v (.int .i64 b154_), [])), (4, (.v (.sl (List.map cI.i64 l153_)), [])), (5, (.v (.int .i64 b155_), []))], [], []⟩ ∧ pspec_l11Many_L1 k l153_ m b154_ b155_ = some out1) ?_ k ⟨_, _, rfl, h159⟩
    rintro m st ⟨b154_, b155_, rfl, h159⟩
    cases m with
    | zero => exact (onone h159).elim
    | succ m =>
      refine Wc.seq ?_
      refine Wc.seq ?_
      refine Wc.region [{}, {}, { v := some (.int .i64 (l153_.length : Int)) }] [] [3, 4, 5, 12] [] [] ⟨[(3, (.v (.int .i64 b154_), [])), (4, (.v (.sl (List.map cI.i64 l153_)), [])), (5, (.v (.int .i64 b155_), [])), (12, (.v (.bool (decide (b155_ < (l153_.length : Int)))), []))], [], []⟩ _ (by kernel_rfl) (.cons (len_obl cI.i64 l153_) .nil) ?_
      rcases oif h159 with ⟨h160, h159⟩ | ⟨h160, h159⟩
      · refine Wc.condT h160 (by kernel_rfl) ?_
        refine Wc.fix (st' := ⟨[(3, (.v (.int .i64 b154_), [])), (4, (.v (.sl (List.map cI.i64 l153_)), [])), (5, (.v (.int .i64 b155_), []))], [], []⟩) [] [3, 4, 5] [] [] (by kernel_rfl) ?_
        refine Wc.skip ?_
        refine Wc.seq ?_
        refine Wc.block ?_
        refine Wc.seq ?_
        obtain ⟨b157_, h161, h159⟩ := obind h159
        refine Wc.region [{}, {}, { v := some (.vptr [.int .i64 b157_]) }] [] [3, 4, 5, 20] [] [] ⟨[(3, (.v (.int .i64 b154_), [])), (4, (.v (.sl (List.map cI.i64 l153_)), [])), (5, (.v (.int .i64 b155_), [])), (20, (.v (.bool (decide (b157_ ≥ b154_))), []))], [], []⟩ _ (by kernel_rfl) (.cons (at_obl (c := cI.i64) rfl cI.i64_len h161) (.cons (len_ok 1 [.int .i64 b157_]) .nil)) ?_
        rcases oif h159 with ⟨h162, h159⟩ | ⟨h162, h159⟩
        · refine Wc.condT h162 (by kernel_rfl) ?_
          obtain ⟨b158_, h163, h159⟩ := obind h159
          refine Wc.region [{}, {}, { v := some (.vptr [.int .i64 b158_]) }] [] [3, 4, 5] [] [] ⟨[(3, (.v (.int .i64 (wr.i64 (b158_ + 1))), [])), (4, (.v (.sl (List.map cI.i64 l153_)), [])), (5, (.v (.int .i64 b155_), []))], [], []⟩ _ (by kernel_rfl) (.cons (at_obl (c := cI.i64) rfl cI.i64_len h163) (.cons (len_ok 1 [.int .i64 b158_]) .nil)) ?_
          refine Wc.region [] [] [3, 4, 5] [] [] ⟨[(3, (.v (.int .i64 (wr.i64 (b158_ + 1))), [])), (4, (.v (.sl (List.map cI.i64 l153_)), [])), (5, (.v (.int .i64 (wr.i64 (b155_ + 1))), []))], [], []⟩ _ (by kernel_rfl) .nil ?_
          exact ⟨_, Nat.lt_succ_self _, _, _, rfl, h159⟩
        · refine Wc.condF h162 (by kernel_rfl) ?_
          refine Wc.fix (st' := ⟨[(3, (.v (.int .i64 b154_), [])), (4, (.v (.sl (List.map cI.i64 l153_)), [])), (5, (.v (.int .i64 b155_), []))], [], []⟩) [] [3, 4, 5] [] [] (by kernel_rfl) ?_
          refine Wc.skip ?_
          refine Wc.region [] [] [3, 4, 5] [] [] ⟨[(3, (.v (.int .i64 b154_), [])), (4, (.v (.sl (List.map cI.i64 l153_)), [])), (5, (.v (.int .i64 (wr.i64 (b155_ + 1))), []))], [], []⟩ _ (by kernel_rfl) .nil ?_
          exact ⟨_, Nat.lt_succ_self _, _, _, rfl, h159⟩
      · refine Wc.condF h160 (by kernel_rfl) ?_
        refine Wc.fix (st' := ⟨[(3, (.v (.int .i64 b154_), []))], [], []⟩) [] [3] [] [] (by kernel_rfl) ?_
        refine Wc.exit ?_
        obtain rfl := Option.some.inj h159
        exact ⟨_, rfl, rfl⟩
  · rintro st ⟨b156_, rfl, rfl⟩
    refine Wc.seq ?_
    refine Wc.region [] [] [2] [] [] ⟨[(2, (.v (.int .i64 b156_), []))], [], []⟩ _ (by kernel_rfl) .nil ?_
    refine Wc.ret ?_
    obtain rfl := Option.some.inj h
    exact ⟨.inl rfl, by kernel_rfl, by kernel_rfl⟩

/-- spec.CodeOf -/
def pspec_CodeOf (k : Nat) (d165_ : GClause) : Option (GCode × Bool) :=
  (pspec_TermOk k d165_.gHead).bind fun f166_ =>
  if (!f166_) = true then
    some (GCode.mk [] [] 0, false)
  else
    (pspec_TermOk k d165_.gBody).bind fun f167_ =>
    if (!f167_) = true then
      some (GCode.mk [] [] 0, false)
    else
      (pspec_WordsOf k d165_.gHead []).bind fun j168_ =>
      (pspec_WordsOf k d165_.gBody j168_.2).bind fun j169_ =>
      (pspec_l11Many k d165_).bind fun b170_ =>
      some (GCode.mk j168_.1 j169_.1 b170_, true)
theorem cspec_CodeOf {k : Nat} {d165_ : GClause} {r : GCode × Bool} (h : pspec_CodeOf k d165_ = some r) : FnO Try.prog 26 [.v (.agg [.int .i64 d165_.gHead.gKind, .str d165_.gHead.gName, .int .i64 d165_.gHead.gNum, .sl (List.map GTerm.c d165_.gHead.gKids), .int .i64 d165_.gBody.gKind, .str d165_.gBody.gName, .int .i64 d165_.gBody.gNum, .sl (List.map GTerm.c d165_.gBody.gKids), .str d165_.gFile]) []] (.v (.tup [.agg [.sl (List.map GIns.c r.1.gHead), .sl (List.map GIns.c r.1.gBody), .int .i64 r.1.gVars], .bool r.2]) []) [] := by
  refine FnO.of Try.func26 (rfl : Try.f26.body = some _) (Nat.le_of_ble_eq_true (by kernel_rfl)) (Nat.le_of_ble_eq_true (by kernel_rfl)) ?_
  intro w0 X0 Fin pv0 pb
  unfold pspec_CodeOf at h
  refine Wc.seq ?_
  refine Wc.region [] [] [1, 2] [1, 2] [] ⟨[(1, (.ptr 1 0, [])), (2, (.ptr 2 0, []))], [(1, .cells [.int .i64 d165_.gHead.gKind, .str d165_.gHead.gName, .int .i64 d165_.gHead.gNum, .sl (List.map GTerm.c d165_.gHead.gKids), .int .i64 d165_.gBody.gKind, .str d165_.gBody.gName, .int .i64 d165_.gBody.gNum, .sl (List.map GTerm.c d165_.gBody.gKids), .str d165_.gFile] []), (2, .cells [.sl (List.map GIns.c []), .sl (List.map GIns.c []), .int .i64 0] [(0, .app 158), (1, .app 158)])], []⟩ _ (by kernel_rfl) .nil ?_
  refine Wc.seq ?_
  refine Wc.seq ?_
  obtain ⟨f166_, h171, h⟩ := obind h
  rcases oif h with ⟨h172, h⟩ | ⟨h172, h⟩
  · refine Wc.region [{}, {}, { r := some (.v (.bool f166_) []) }, {}, { re := some (.bool true) }] [] [1, 2, 17] [1, 2] [] ⟨[(1, (.ptr 1 0, [])), (2, (.ptr 2 0, [])), (17, (.v (.bool true), []))], [(1, .cells [.int .i64 d165_.gHead.gKind, .str d165_.gHead.gName, .int .i64 d165_.gHead.gNum, .sl (List.map GTerm.c d165_.gHead.gKids), .int .i64 d165_.gBody.gKind, .str d165_.gBody.gName, .int .i64 d165_.gBody.gNum, .sl (List.map GTerm.c d165_.gBody.gKids), .str d165_.gFile] []), (2, .cells [.sl (List.map GIns.c []), .sl (List.map GIns.c []), .int .i64 0] [(0, .app 158), (1, .app 158)])], []⟩ _ (by kernel_rfl) (.cons (cspec_TermOk h171) (.cons (congrArg AV.bool h172) .nil)) ?_
    refine Wc.condT rfl (by kernel_rfl) ?_
    refine Wc.seq ?_
    refine Wc.region [{}, { tk := [18] }] [] [2, 3] [2] [] ⟨[(2, (.ptr 2 0, [])), (3, (.v (.bool false), []))], [(2, .cells [.sl (List.map GIns.c []), .sl (List.map GIns.c []), .int .i64 0] [(0, .app 158), (1, .app 158)])], []⟩ _ (by kernel_rfl) .nil ?_
    refine Wc.fix (st' := ⟨[(2, (.ptr 2 0, [])), (3, (.v (.bool false), []))], [(2, .cells [.sl (List.map GIns.c []), .sl (List.map GIns.c []), .int .i64 0] [])], []⟩) [.un (.b 2 0), .un (.b 2 1)] [2, 3] [2] [] (by kernel_rfl) ?_
    refine Wc.ret ?_
    obtain rfl := Option.some.inj h
    exact ⟨.inl rfl, by kernel_rfl, by kernel_rfl⟩
  · obtain ⟨f167_, h173, h⟩ := obind h
    refine Wc.region [{}, {}, { r := some (.v (.bool f166_) []) }, {}, { re := some (.bool false) }, {}, {}, { r := some (.v (.bool f167_) []) }] [] [1, 2, 17] [1, 2] [] ⟨[(1, (.ptr 1 0, [])), (2, (.ptr 2 0, [])), (17, (.v (.bool (!f167_)), []))], [(1, .cells [.int .i64 d165_.gHead.gKind, .str d165_.gHead.gName, .int .i64 d165_.gHead.gNum, .sl (List.map GTerm.c d165_.gHead.gKids), .int .i64 d165_.gBody.gKind, .str d165_.gBody.gName, .int .i64 d165_.gBody.gNum, .sl (List.map GTerm.c d165_.gBody.gKids), .str d165_.gFile] []), (2, .cells [.sl (List.map GIns.c []), .sl (List.map GIns.c []), .int .i64 0] [(0, .app 158), (1, .app 158)])], []⟩ _ (by kernel_rfl) (.cons (cspec_TermOk h171) (.cons (congrArg AV.bool h172) (.cons (cspec_TermOk h173) .nil))) ?_
    rcases oif h with ⟨h174, h⟩ | ⟨h174, h⟩
    · refine Wc.condT h174 (by kernel_rfl) ?_
      refine Wc.seq ?_
      refine Wc.region [{}, { tk := [18] }] [] [2, 3] [2] [] ⟨[(2, (.ptr 2 0, [])), (3, (.v (.bool false), []))], [(2, .cells [.sl (List.map GIns.c []), .sl (List.map GIns.c []), .int .i64 0] [(0, .app 158), (1, .app 158)])], []⟩ _ (by kernel_rfl) .nil ?_
      refine Wc.fix (st' := ⟨[(2, (.ptr 2 0, [])), (3, (.v (.bool false), []))], [(2, .cells [.sl (List.map GIns.c []), .sl (List.map GIns.c []), .int .i64 0] [])], []⟩) [.un (.b 2 0), .un (.b 2 1)] [2, 3] [2] [] (by kernel_rfl) ?_
      refine Wc.ret ?_
      obtain rfl := Option.some.inj h
      exact ⟨.inl rfl, by kernel_rfl, by kernel_rfl⟩
    · refine Wc.condF h174 (by kernel_rfl) ?_
      refine Wc.fix (st' := ⟨[(1, (.ptr 1 0, [])), (2, (.ptr 2 0, []))], [(1, .cells [.int .i64 d165_.gHead.gKind, .str d165_.gHead.gName, .int .i64 d165_.gHead.gNum, .sl (List.map GTerm.c d165_.gHead.gKids), .int .i64 d165_.gBody.gKind, .str d165_.gBody.gName, .int .i64 d165_.gBody.gNum, .sl (List.map GTerm.c d165_.gBody.gKids), .str d165_.gFile] []), (2, .cells [.sl (List.map GIns.c []), .sl (List.map GIns.c []), .int .i64 0] [(0, .app 158), (1, .app 158)])], []⟩) [] [1, 2] [1, 2] [] (by kernel_rfl) ?_
      refine Wc.skip ?_
      refine Wc.seq ?_
      obtain ⟨j168_, h175, h⟩ := obind h
      refine Wc.region [{}, {}, { c := some (List.map cI.i64 []) }, { r := some (.v (.tup [.sl (List.map GIns.c j168_.1), .sl (List.map cI.i64 j168_.2)]) []) }] [] [1, 2, 4, 5] [1, 2] [] ⟨[(1, (.ptr 1 0, [])), (2, (.ptr 2 0, [])), (4, (.v (.sl (List.map GIns.c j168_.1)), [])), (5, (.v (.sl (List.map cI.i64 j168_.2)), []))], [(1, .cells [.int .i64 d165_.gHead.gKind, .str d165_.gHead.gName, .int .i64 d165_.gHead.gNum, .sl (List.map GTerm.c d165_.gHead.gKids), .int .i64 d165_.gBody.gKind, .str d165_.gBody.gName, .int .i64 d165_.gBody.gNum, .sl (List.map GTerm.c d165_.gBody.gKids), .str d165_.gFile] []), (2, .cells [.sl (List.map GIns.c []), .sl (List.map GIns.c []), .int .i64 0] [(0, .app 158), (1, .app 158)])], []⟩ _ (by kernel_rfl) (.cons (cl_nil cI.i64) (.cons (cspec_WordsOf h175) .nil)) ?_
      refine Wc.seq ?_
      obtain ⟨j169_, h176, h⟩ := obind h
      refine Wc.region [{}, {}, {}, { r := some (.v (.tup [.sl (List.map GIns.c j169_.1), .sl (List.map cI.i64 j169_.2)]) []) }] [] [1, 2, 4, 6] [1, 2] [] ⟨[(1, (.ptr 1 0, [])), (2, (.ptr 2 0, [])), (4, (.v (.sl (List.map GIns.c j168_.1)), [])), (6, (.v (.sl (List.map GIns.c j169_.1)), []))], [(1, .cells [.int .i64 d165_.gHead.gKind, .str d165_.gHead.gName, .int .i64 d165_.gHead.gNum, .sl (List.map GTerm.c d165_.gHead.gKids), .int .i64 d165_.gBody.gKind, .str d165_.gBody.gName, .int .i64 d165_.gBody.gNum, .sl (List.map GTerm.c d165_.gBody.gKids), .str d165_.gFile] []), (2, .cells [.sl (List.map GIns.c []), .sl (List.map GIns.c []), .int .i64 0] [(0, .app 158), (1, .app 158)])], []⟩ _ (by kernel_rfl) (.cons (cspec_WordsOf h176) .nil) ?_
      refine Wc.seq ?_
      obtain ⟨b170_, h177, h⟩ := obind h
      refine Wc.region [{}, {}, {}, { r := some (.v (.int .i64 b170_) []) }] [] [2, 3] [2] [] ⟨[(2, (.ptr 2 0, [])), (3, (.v (.bool true), []))], [(2, .cells [.sl (List.map GIns.c j168_.1), .sl (List.map GIns.c j169_.1), .int .i64 b170_] [])], []⟩ _ (by kernel_rfl) (.cons (cspec_l11Many h177) .nil) ?_
      refine Wc.ret ?_
      obtain rfl := Option.some.inj h
      exact ⟨.inl rfl, by kernel_rfl, by kernel_rfl⟩

def plaws_toTermS_L1 (k : Nat) (rlaws_toTerm : GTerm → Option GTerm) (rlaws_toTermS : (List GTerm) → Option (List GTerm)) (a173_ : List GTerm) : Nat → (List GTerm) → Int → Option (Out (List GTerm) (List GTerm))
  | 0, _, _ => none
  | m + 1, a174_, b175_ =>
    if (decide (b175_ < (a173_.length : Int))) = true then
      (at' a173_ b175_).bind fun c177_ =>
      (rlaws_toTerm c177_).bind fun c178_ =>
      (at' a174_ b175_).bind fun c179_ =>
      plaws_toTermS_L1 k rlaws_toTerm rlaws_toTermS a173_ m (a174_.set ((b175_).toNat) c178_) (wr.i64 (b175_ + 1))
    else
      some (.done a174_)
mutual
/-- laws.toTerm -/
def plaws_toTerm : Nat → GTerm → Option GTerm
  | 0, _ => none
  | k + 1, c171_ =>
    (plaws_toTermS k c171_.gKids).bind fun m172_ =>
    some (GTerm.mk c171_.gKind c171_.gName c171_.gNum m172_)
/-- laws.toTermS -/
def plaws_toTermS : Nat → (List GTerm) → Option (List GTerm)
  | 0, _ => none
  | k + 1, a173_ =>
    if 0 ≤ (a173_.length : Int) ∧ (a173_.length : Int) ≤ 1073741824 then
      (plaws_toTermS_L1 k (plaws_toTerm k) (plaws_toTermS k) a173_ k (List.replicate ((a173_.length : Int)).toNat (GTerm.mk 0 (bs []) 0 [])) 0).bind fun out1 => match out1 with
      | .ret r => some r
      | .done a176_ =>
        some a176_
    else none
end
theorem all_plaws_toTerm : ∀ k : Nat, (∀ {c171_ : GTerm} {r : GTerm}, plaws_toTerm k c171_ = some r → FnO Try.prog 36 [.v (.agg [.int .i64 c171_.gKind, .str c171_.gName, .int .i64 c171_.gNum, .sl (List.map GTerm.c c171_.gKids)]) []] (.v (.agg [.int .i64 r.gKind, .str r.gName, .int .i64 r.gNum, .sl (List.map GTerm.c r.gKids)]) []) []) ∧
    (∀ {a173_ : List GTerm} {r : (List GTerm)}, plaws_toTermS k a173_ = some r → FnO Try.prog 90 [.v (.sl (List.map GTerm.c a173_)) []] (.v (.sl (List.map GTerm.c r)) []) []) := by
  intro k
  induction k with
  | zero =>
    refine ⟨?_, ?_⟩
    · intro c171_ r h
      exact (onone (by rw [plaws_toTerm] at h; exact h)).elim
    · intro a173_ r h
      exact (onone (by rw [plaws_toTermS] at h; exact h)).elim
  | succ k ih =>
    obtain ⟨ih_plaws_toTerm, ih_plaws_toTermS⟩ := ih
    refine ⟨?_, ?_⟩
    · intro c171_ r h
      rw [plaws_toTerm] at h
      refine FnO.of Try.func36 (rfl : Try.f36.body = some _) (Nat.le_of_ble_eq_true (by kernel_rfl)) (Nat.le_of_ble_eq_true (by kernel_rfl)) ?_
      intro w0 X0 Fin pv0 pb
      refine Wc.seq ?_
      refine Wc.region [] [] [1, 2] [1, 2] [] ⟨[(1, (.ptr 1 0, [])), (2, (.ptr 2 0, []))], [(1, .cells [.int .i64 c171_.gKind, .str c171_.gName, .int .i64 c171_.gNum, .sl (List.map GTerm.c c171_.gKids)] []), (2, .cells [.int .i64 0, .str (bs []), .int .i64 0, .sl (List.map GTerm.c [])] [(3, .app 42)])], []⟩ _ (by kernel_rfl) .nil ?_
      refine Wc.seq ?_
      refine Wc.region [] [] [1, 2, 3] [1, 2, 3] [] ⟨[(1, (.ptr 1 0, [])), (2, (.ptr 2 0, [])), (3, (.ptr 3 0, []))], [(1, .cells [.int .i64 c171_.gKind, .str c171_.gName, .int .i64 c171_.gNum, .sl (List.map GTerm.c c171_.gKids)] []), (2, .cells [.int .i64 0, .str (bs []), .int .i64 0, .sl (List.map GTerm.c [])] [(3, .app 42)]), (3, .cells [.int .i64 0, .str (bs []), .int .i64 0, .sl (List.map GTerm.c [])] [(3, .app 42)])], []⟩ _ (by kernel_rfl) .nil ?_
      refine Wc.seq ?_
      refine Wc.region [] [] [1, 2, 3] [1, 2, 3] [] ⟨[(1, (.ptr 1 0, [])), (2, (.ptr 2 0, [])), (3, (.ptr 3 0, []))], [(1, .cells [.int .i64 c171_.gKind, .str c171_.gName, .int .i64 c171_.gNum, .sl (List.map GTerm.c c171_.gKids)] []), (2, .cells [.int .i64 0, .str (bs []), .int .i64 0, .sl (List.map GTerm.c [])] [(3, .app 42)]), (3, .cells [.int .i64 c171_.gKind, .str (bs []), .int .i64 0, .sl (List.map GTerm.c [])] [(3, .app 42)])], []⟩ _ (by kernel_rfl) .nil ?_
      refine Wc.seq ?_
      refine Wc.region [] [] [1, 2, 3] [1, 2, 3] [] ⟨[(1, (.ptr 1 0, [])), (2, (.ptr 2 0, [])), (3, (.ptr 3 0, []))], [(1, .cells [.int .i64 c171_.gKind, .str c171_.gName, .int .i64 c171_.gNum, .sl (List.map GTerm.c c171_.gKids)] []), (2, .cells [.int .i64 0, .str (bs []), .int .i64 0, .sl (List.map GTerm.c [])] [(3, .app 42)]), (3, .cells [.int .i64 c171_.gKind, .str c171_.gName, .int .i64 0, .sl (List.map GTerm.c [])] [(3, .app 42)])], []⟩ _ (by kernel_rfl) .nil ?_
      refine Wc.seq ?_
      refine Wc.region [] [] [1, 2, 3] [1, 2, 3] [] ⟨[(1, (.ptr 1 0, [])), (2, (.ptr 2 0, [])), (3, (.ptr 3 0, []))], [(1, .cells [.int .i64 c171_.gKind, .str c171_.gName, .int .i64 c171_.gNum, .sl (List.map GTerm.c c171_.gKids)] []), (2, .cells [.int .i64 0, .str (bs []), .int .i64 0, .sl (List.map GTerm.c [])] [(3, .app 42)]), (3, .cells [.int .i64 c171_.gKind, .str c171_.gName, .int .i64 c171_.gNum, .sl (List.map GTerm.c [])] [(3, .app 42)])], []⟩ _ (by kernel_rfl) .nil ?_
      refine Wc.seq ?_
      obtain ⟨m172_, h178, h⟩ := obind h
      refine Wc.region [{}, {}, { r := some (.v (.sl (List.map GTerm.c m172_)) []) }] [] [2, 3] [2, 3] [] ⟨[(2, (.ptr 2 0, [])), (3, (.ptr 3 0, []))], [(2, .cells [.int .i64 0, .str (bs []), .int .i64 0, .sl (List.map GTerm.c [])] [(3, .app 42)]), (3, .cells [.int .i64 c171_.gKind, .str c171_.gName, .int .i64 c171_.gNum, .sl (List.map GTerm.c m172_)] [])], []⟩ _ (by kernel_rfl) (.cons (ih_plaws_toTermS h178) .nil) ?_
      refine Wc.seq ?_
      refine Wc.region [] [] [2] [2] [] ⟨[(2, (.ptr 2 0, []))], [(2, .cells [.int .i64 c171_.gKind, .str c171_.gName, .int .i64 c171_.gNum, .sl (List.map GTerm.c m172_)] [])], []⟩ _ (by kernel_rfl) .nil ?_
      refine Wc.ret ?_
      obtain rfl := Option.some.inj h
      exact ⟨.inl rfl, by kernel_rfl, by kernel_rfl⟩
    · intro a173_ r h
      rw [plaws_toTermS] at h
      refine FnO.of Try.func90 (rfl : Try.f90.body = some _) (Nat.le_of_ble_eq_true (by kernel_rfl)) (Nat.le_of_ble_eq_true (by kernel_rfl)) ?_
      intro w0 X0 Fin pv0 pb
      refine Wc.seq ?_
      refine Wc.region [] [] [0] [] [] ⟨[(0, (.v (.sl (List.map GTerm.c a173_)), []))], [], []⟩ _ (by kernel_rfl) .nil ?_
      refine Wc.seq ?_
      obtain ⟨h179, h⟩ := oguard h
      refine Wc.region [{}, { v := some (.int .i64 (a173_.length : Int)) }, { c := some (List.map GTerm.c (List.replicate ((a173_.length : Int)).toNat (GTerm.mk 0 (bs []) 0 []))) }, { tk := [7], fx := [.ag (.t 7 0)] }] [] [0, 3] [] [] ⟨[(0, (.v (.sl (List.map GTerm.c a173_)), [])), (3, (.v (.slx), [(0, .ex 42 false (List.map GTerm.c (List.replicate ((a173_.length : Int)).toNat (GTerm.mk 0 (bs []) 0 []))))]))], [], []⟩ _ (by kernel_rfl) (.cons (len_obl GTerm.c a173_) (.cons (rep_re (c := GTerm.c) (z := (GTerm.mk 0 (bs []) 0 [])) (GTerm.c_eq (GTerm.mk 0 (bs []) 0 [])) ((a173_.length : Int)).toNat) (.cons (ms_obl h179) .nil))) ?_
      refine Wc.seq ?_
      refine Wc.seq ?_
      refine Wc.region [] [] [0, 3, 4] [] [] ⟨[(0, (.v (.sl (List.map GTerm.c a173_)), [])), (3, (.v (.slx), [(0, .ex 42 false (List.map GTerm.c (List.replicate ((a173_.length : Int)).toNat (GTerm.mk 0 (bs []) 0 []))))])), (4, (.v (.int .i64 0), []))], [], []⟩ _ (by kernel_rfl) .nil ?_
      obtain ⟨out1, h180, h⟩ := obind h
      refine Wc.lastJ (fun st => ∃ (a176_ : List GTerm), out1 = .done a176_ ∧ st = ⟨[(3, (.v (.slx), [(0, .ex 42 false (List.map GTerm.c a176_))]))], [], []⟩) ?_ ?_
      · refine Wc.block ?_
        refine Wc.loop (fun m st => ∃ (a174_ : List GTerm) (b175_ : Int), st = ⟨[(0, (.v (.sl (List.map GTerm.c a173_)), [])), (3, (.v (.slx), [(0, .ex 42 false (List.map GTerm.c a174_))])), (4, (.v (.int .i64 b175_), []))], [], []⟩ ∧ plaws_toTermS_L1 k (plaws_toTerm k) (plaws_toTermS k) a173_ m a174_ b175_ = some out1) ?_ k ⟨_, _, rfl, h180⟩
        rintro m st ⟨a174_, b175_, rfl, h180⟩
        cases m with
        | zero => exact (onone h180).elim
        | succ m =>
          refine Wc.seq ?_
          refine Wc.seq ?_
          refine Wc.region [{}, {}, { v := some (.int .i64 (a173_.length : Int)) }] [] [0, 3, 4, 11] [] [] ⟨[(0, (.v (.sl (List.map GTerm.c a173_)), [])), (3, (.v (.slx), [(0, .ex 42 false (List.map GTerm.c a174_))])), (4, (.v (.int .i64 b175_), [])), (11, (.v (.bool (decide (b175_ < (a173_.length : Int)))), []))], [], []⟩ _ (by kernel_rfl) (.cons (len_obl GTerm.c a173_) .nil) ?_
          rcases oif h180 with ⟨h181, h180⟩ | ⟨h181, h180⟩
          · refine Wc.condT h181 (by kernel_rfl) ?_
            refine Wc.fix (st' := ⟨[(0, (.v (.sl (List.map GTerm.c a173_)), [])), (3, (.v (.slx), [(0, .ex 42 false (List.map GTerm.c a174_))])), (4, (.v (.int .i64 b175_), []))], [], []⟩) [] [0, 3, 4] [] [] (by kernel_rfl) ?_
            refine Wc.skip ?_
            refine Wc.seq ?_
            refine Wc.block ?_
            obtain ⟨c177_, h182, h180⟩ := obind h180
            obtain ⟨c178_, h183, h180⟩ := obind h180
            obtain ⟨c179_, h184, h180⟩ := obind h180
            refine Wc.region [{}, {}, {}, {}, { v := some (.vptr [.int .i64 c177_.gKind, .str c177_.gName, .int .i64 c177_.gNum, .sl (List.map GTerm.c c177_.gKids)]) }, {}, { r := some (.v (.agg [.int .i64 c178_.gKind, .str c178_.gName, .int .i64 c178_.gNum, .sl (List.map GTerm.c c178_.gKids)]) []) }, {}, { c := some (List.map GTerm.c (a174_.set ((b175_).toNat) c178_)) }] [] [0, 3, 4] [] [] ⟨[(0, (.v (.sl (List.map GTerm.c a173_)), [])), (3, (.v (.slx), [(0, .ex 42 false (List.map GTerm.c (a174_.set ((b175_).toNat) c178_)))])), (4, (.v (.int .i64 b175_), []))], [], []⟩ _ (by kernel_rfl) (.cons (at_obl (c := GTerm.c) (GTerm.c_eq c177_) GTerm.c_len h182) (.cons (len_ok 4 [.int .i64 c177_.gKind, .str c177_.gName, .int .i64 c177_.gNum, .sl (List.map GTerm.c c177_.gKids)]) (.cons (ih_plaws_toTerm h183) (.cons (ix_obl (c := GTerm.c) GTerm.c_len h184) (.cons (mod_obl (off := 0) (new := [.int .i64 c178_.gKind, .str c178_.gName, .int .i64 c178_.gNum, .sl (List.map GTerm.c c178_.gKids)]) (c := GTerm.c) (GTerm.c_eq c179_) (GTerm.c_eq c178_) (at'_spec h184).2 rfl) (.cons (st_obl (sz := 4) (off := 0) (s := 4) (c := GTerm.c) (GTerm.c_eq c179_) (at'_spec h184).2 rfl (Nat.le_of_ble_eq_true rfl)) .nil)))))) ?_
            refine Wc.region [] [] [0, 3, 4] [] [] ⟨[(0, (.v (.sl (List.map GTerm.c a173_)), [])), (3, (.v (.slx), [(0, .ex 42 false (List.map GTerm.c (a174_.set ((b175_).toNat) c178_)))])), (4, (.v (.int .i64 (wr.i64 (b175_ + 1))), []))], [], []⟩ _ (by kernel_rfl) .nil ?_
            exact ⟨_, Nat.lt_succ_self _, _, _, rfl, h180⟩
          · refine Wc.condF h181 (by kernel_rfl) ?_
            refine Wc.fix (st' := ⟨[(3, (.v (.slx), [(0, .ex 42 false (List.map GTerm.c a174_))]))], [], []⟩) [] [3] [] [] (by kernel_rfl) ?_
            refine Wc.exit ?_
            obtain rfl := Option.some.inj h180
            exact ⟨_, rfl, rfl⟩
      · rintro st ⟨a176_, rfl, rfl⟩
        refine Wc.seq ?_
        refine Wc.region [{ tk := [3] }, { tk := [22] }] [] [2] [] [] ⟨[(2, (.v (.slx), [(0, .ex 42 false (List.map GTerm.c a176_))]))], [], []⟩ _ (by kernel_rfl) .nil ?_
        refine Wc.fix (st' := ⟨[(2, (.v (.sl (List.map GTerm.c a176_)), []))], [], []⟩) [.sh (.t 2 0)] [2] [] [] (by kernel_rfl) ?_
        refine Wc.ret ?_
        obtain rfl := Option.some.inj h
        exact ⟨.inl rfl, by kernel_rfl, by kernel_rfl⟩
theorem claws_toTerm {k : Nat} {c171_ : GTerm} {r : GTerm} (h : plaws_toTerm k c171_ = some r) : FnO Try.prog 36 [.v (.agg [.int .i64 c171_.gKind, .str c171_.gName, .int .i64 c171_.gNum, .sl (List.map GTerm.c c171_.gKids)]) []] (.v (.agg [.int .i64 r.gKind, .str r.gName, .int .i64 r.gNum, .sl (List.map GTerm.c r.gKids)]) []) [] := (all_plaws_toTerm k).1 h
theorem claws_toTermS {k : Nat} {a173_ : List GTerm} {r : (List GTerm)} (h : plaws_toTermS k a173_ = some r) : FnO Try.prog 90 [.v (.sl (List.map GTerm.c a173_)) []] (.v (.sl (List.map GTerm.c r)) []) [] := (all_plaws_toTerm k).2 h

/-- laws.toClause -/
def plaws_toClause (k : Nat) (d180_ : GClause) : Option GClause :=
  (plaws_toTerm k d180_.gHead).bind fun c181_ =>
  (plaws_toTerm k d180_.gBody).bind fun c182_ =>
  some (GClause.mk c181_ c182_ d180_.gFile)
theorem claws_toClause {k : Nat} {d180_ : GClause} {r : GClause} (h : plaws_toClause k d180_ = some r) : FnO Try.prog 27 [.v (.agg [.int .i64 d180_.gHead.gKind, .str d180_.gHead.gName, .int .i64 d180_.gHead.gNum, .sl (List.map GTerm.c d180_.gHead.gKids), .int .i64 d180_.gBody.gKind, .str d180_.gBody.gName, .int .i64 d180_.gBody.gNum, .sl (List.map GTerm.c d180_.gBody.gKids), .str d180_.gFile]) []] (.v (.agg [.int .i64 r.gHead.gKind, .str r.gHead.gName, .int .i64 r.gHead.gNum, .sl (List.map GTerm.c r.gHead.gKids), .int .i64 r.gBody.gKind, .str r.gBody.gName, .int .i64 r.gBody.gNum, .sl (List.map GTerm.c r.gBody.gKids), .str r.gFile]) []) [] := by
  refine FnO.of Try.func27 (rfl : Try.f27.body = some _) (Nat.le_of_ble_eq_true (by kernel_rfl)) (Nat.le_of_ble_eq_true (by kernel_rfl)) ?_
  intro w0 X0 Fin pv0 pb
  unfold plaws_toClause at h
  refine Wc.seq ?_
  refine Wc.region [] [] [1, 2] [1, 2] [] ⟨[(1, (.ptr 1 0, [])), (2, (.ptr 2 0, []))], [(1, .cells [.int .i64 d180_.gHead.gKind, .str d180_.gHead.gName, .int .i64 d180_.gHead.gNum, .sl (List.map GTerm.c d180_.gHead.gKids), .int .i64 d180_.gBody.gKind, .str d180_.gBody.gName, .int .i64 d180_.gBody.gNum, .sl (List.map GTerm.c d180_.gBody.gKids), .str d180_.gFile] []), (2, .cells [.int .i64 0, .str (bs []), .int .i64 0, .sl (List.map GTerm.c []), .int .i64 0, .str (bs []), .int .i64 0, .sl (List.map GTerm.c []), .str (bs [])] [(3, .app 42), (7, .app 42)])], []⟩ _ (by kernel_rfl) .nil ?_
  refine Wc.seq ?_
  refine Wc.region [] [] [1, 2, 3] [1, 2, 3] [] ⟨[(1, (.ptr 1 0, [])), (2, (.ptr 2 0, [])), (3, (.ptr 3 0, []))], [(1, .cells [.int .i64 d180_.gHead.gKind, .str d180_.gHead.gName, .int .i64 d180_.gHead.gNum, .sl (List.map GTerm.c d180_.gHead.gKids), .int .i64 d180_.gBody.gKind, .str d180_.gBody.gName, .int .i64 d180_.gBody.gNum, .sl (List.map GTerm.c d180_.gBody.gKids), .str d180_.gFile] []), (2, .cells [.int .i64 0, .str (bs []), .int .i64 0, .sl (List.map GTerm.c []), .int .i64 0, .str (bs []), .int .i64 0, .sl (List.map GTerm.c []), .str (bs [])] [(3, .app 42), (7, .app 42)]), (3, .cells [.int .i64 0, .str (bs []), .int .i64 0, .sl (List.map GTerm.c []), .int .i64 0, .str (bs []), .int .i64 0, .sl (List.map GTerm.c []), .str (bs [])] [(3, .app 42), (7, .app 42)])], []⟩ _ (by kernel_rfl) .nil ?_
  refine Wc.seq ?_
  obtain ⟨c181_, h185, h⟩ := obind h
  refine Wc.region [{}, {}, { r := some (.v (.agg [.int .i64 c181_.gKind, .str c181_.gName, .int .i64 c181_.gNum, .sl (List.map GTerm.c c181_.gKids)]) []) }] [] [1, 2, 3] [1, 2, 3] [] ⟨[(1, (.ptr 1 0, [])), (2, (.ptr 2 0, [])), (3, (.ptr 3 0, []))], [(1, .cells [.int .i64 d180_.gHead.gKind, .str d180_.gHead.gName, .int .i64 d180_.gHead.gNum, .sl (List.map GTerm.c d180_.gHead.gKids), .int .i64 d180_.gBody.gKind, .str d180_.gBody.gName, .int .i64 d180_.gBody.gNum, .sl (List.map GTerm.c d180_.gBody.gKids), .str d180_.gFile] []), (2, .cells [.int .i64 0, .str (bs []), .int .i64 0, .sl (List.map GTerm.c []), .int .i64 0, .str (bs []), .int .i64 0, .sl (List.map GTerm.c []), .str (bs [])] [(3, .app 42), (7, .app 42)]), (3, .cells [.int .i64 c181_.gKind, .str c181_.gName, .int .i64 c181_.gNum, .sl (List.map GTerm.c c181_.gKids), .int .i64 0, .str (bs []), .int .i64 0, .sl (List.map GTerm.c []), .str (bs [])] [(7, .app 42)])], []⟩ _ (by kernel_rfl) (.cons (claws_toTerm h185) .nil) ?_
  refine Wc.seq ?_
  obtain ⟨c182_, h186, h⟩ := obind h
  refine Wc.region [{}, {}, { r := some (.v (.agg [.int .i64 c182_.gKind, .str c182_.gName, .int .i64 c182_.gNum, .sl (List.map GTerm.c c182_.gKids)]) []) }] [] [1, 2, 3] [1, 2, 3] [] ⟨[(1, (.ptr 1 0, [])), (2, (.ptr 2 0, [])), (3, (.ptr 3 0, []))], [(1, .cells [.int .i64 d180_.gHead.gKind, .str d180_.gHead.gName, .int .i64 d180_.gHead.gNum, .sl (List.map GTerm.c d180_.gHead.gKids), .int .i64 d180_.gBody.gKind, .str d180_.gBody.gName, .int .i64 d180_.gBody.gNum, .sl (List.map GTerm.c d180_.gBody.gKids), .str d180_.gFile] []), (2, .cells [.int .i64 0, .str (bs []), .int .i64 0, .sl (List.map GTerm.c []), .int .i64 0, .str (bs []), .int .i64 0, .sl (List.map GTerm.c []), .str (bs [])] [(3, .app 42), (7, .app 42)]), (3, .cells [.int .i64 c181_.gKind, .str c181_.gName, .int .i64 c181_.gNum, .sl (List.map GTerm.c c181_.gKids), .int .i64 c182_.gKind, .str c182_.gName, .int .i64 c182_.gNum, .sl (List.map GTerm.c c182_.gKids), .str (bs [])] [])], []⟩ _ (by kernel_rfl) (.cons (claws_toTerm h186) .nil) ?_
  refine Wc.seq ?_
  refine Wc.region [] [] [2, 3] [2, 3] [] ⟨[(2, (.ptr 2 0, [])), (3, (.ptr 3 0, []))], [(2, .cells [.int .i64 0, .str (bs []), .int .i64 0, .sl (List.map GTerm.c []), .int .i64 0, .str (bs []), .int .i64 0, .sl (List.map GTerm.c []), .str (bs [])] [(3, .app 42), (7, .app 42)]), (3, .cells [.int .i64 c181_.gKind, .str c181_.gName, .int .i64 c181_.gNum, .sl (List.map GTerm.c c181_.gKids), .int .i64 c182_.gKind, .str c182_.gName, .int .i64 c182_.gNum, .sl (List.map GTerm.c c182_.gKids), .str d180_.gFile] [])], []⟩ _ (by kernel_rfl) .nil ?_
  refine Wc.seq ?_
  refine Wc.region [] [] [2] [2] [] ⟨[(2, (.ptr 2 0, []))], [(2, .cells [.int .i64 c181_.gKind, .str c181_.gName, .int .i64 c181_.gNum, .sl (List.map GTerm.c c181_.gKids), .int .i64 c182_.gKind, .str c182_.gName, .int .i64 c182_.gNum, .sl (List.map GTerm.c c182_.gKids), .str d180_.gFile] [])], []⟩ _ (by kernel_rfl) .nil ?_
  refine Wc.ret ?_
  obtain rfl := Option.some.inj h
  exact ⟨.inl rfl, by kernel_rfl, by kernel_rfl⟩

/-- impl.within -/
def pimpl_within (k : Nat) (b183_ : Int) (b184_ : Int) (b185_ : Int) : Option Bool :=
  if (decide (b183_ ≥ b184_)) = true then
    some (decide (b183_ ≤ b185_))
  else
    some false
theorem cimpl_within {k : Nat} {b183_ : Int} {b184_ : Int} {b185_ : Int} {r : Bool} (h : pimpl_within k b183_ b184_ b185_ = some r) : FnO Try.prog 114 [.v (.int .i64 b183_) [], .v (.int .i64 b184_) [], .v (.int .i64 b185_) []] (.v (.bool r) []) [] := by
  refine FnO.of Try.func114 (rfl : Try.f114.body = some _) (Nat.le_of_ble_eq_true (by kernel_rfl)) (Nat.le_of_ble_eq_true (by kernel_rfl)) ?_
  intro w0 X0 Fin pv0 pb
  unfold pimpl_within at h
  refine Wc.seq ?_
  refine Wc.region [] [] [0, 1, 2] [] [] ⟨[(0, (.v (.int .i64 b183_), [])), (1, (.v (.int .i64 b184_), [])), (2, (.v (.int .i64 b185_), []))], [], []⟩ _ (by kernel_rfl) .nil ?_
  refine Wc.seq ?_
  rcases oif h with ⟨h187, h⟩ | ⟨h187, h⟩
  · refine Wc.region [{}, {}, {}, { re := some (.bool true) }] [] [6] [] [] ⟨[(6, (.v (.bool (decide (b183_ ≤ b185_))), []))], [], []⟩ _ (by kernel_rfl) (.cons (congrArg AV.bool h187) .nil) ?_
    refine Wc.ret ?_
    obtain rfl := Option.some.inj h
    exact ⟨.inl rfl, by kernel_rfl, by kernel_rfl⟩
  · refine Wc.region [{}, {}, {}, { re := some (.bool false) }] [] [6] [] [] ⟨[(6, (.v (.bool false), []))], [], []⟩ _ (by kernel_rfl) (.cons (congrArg AV.bool h187) .nil) ?_
    refine Wc.ret ?_
    obtain rfl := Option.some.inj h
    exact ⟨.inl rfl, by kernel_rfl, by kernel_rfl⟩

def pimpl_nameOk_L1 (k : Nat) (e186_ : ByteArray) : Nat → Int → Option (Out Bool Unit)
  | 0, _ => none
  | m + 1, b187_ =>
    if (decide (b187_ < (e186_.size : Int))) = true then
      if 0 ≤ b187_ ∧ (b187_).toNat < e186_.size then
        (pimpl_within k (wr.i64 (bt e186_ b187_)) 33 126).bind fun f188_ =>
        if (!f188_) = true then
          some (.ret false)
        else
          if 0 ≤ b187_ ∧ (b187_).toNat < e186_.size then
            if ((bt e186_ b187_) == 39) = true then
              some (.ret false)
            else
              if 0 ≤ b187_ ∧ (b187_).toNat < e186_.size then
                if ((bt e186_ b187_) == 34) = true then
                  some (.ret false)
                else
                  pimpl_nameOk_L1 k e186_ m (wr.i64 (b187_ + 1))
              else none
          else none
      else none
    else
      some (.done ())
/-- impl.nameOk -/
def pimpl_nameOk (k : Nat) (e186_ : ByteArray) : Option Bool :=
  (pimpl_nameOk_L1 k e186_ k 0).bind fun out1 => match out1 with
  | .ret r => some r
  | .done () =>
    (pimpl_within k (e186_.size : Int) 1 20).bind fun f189_ =>
    some f189_
theorem cimpl_nameOk {k : Nat} {e186_ : ByteArray} {r : Bool} (h : pimpl_nameOk k e186_ = some r) : FnO Try.prog 145 [.v (.str e186_) []] (.v (.bool r) []) [] := by
  refine FnO.of Try.func145 (rfl : Try.f145.body = some _) (Nat.le_of_ble_eq_true (by kernel_rfl)) (Nat.le_of_ble_eq_true (by kernel_rfl)) ?_
  intro w0 X0 Fin pv0 pb
  unfold pimpl_nameOk at h
  refine Wc.seq ?_
  refine Wc.region [] [] [0] [] [] ⟨[(0, (.v (.str e186_), []))], [], []⟩ _ (by kernel_rfl) .nil ?_
  refine Wc.seq ?_
  refine Wc.seq ?_
  refine Wc.region [] [] [0, 3] [] [] ⟨[(0, (.v (.str e186_), [])), (3, (.v (.int .i64 0), []))], [], []⟩ _ (by kernel_rfl) .nil ?_
  obtain ⟨out1, h188, h⟩ := obind h
  refine Wc.lastJ (fun st => out1 = .done () ∧ st = ⟨[(0, (.v (.str e186_), []))], [], []⟩) ?_ ?_
  · refine Wc.block ?_
    refine Wc.loop (fun m st => ∃ (b187_ : Int), st = ⟨[(0, (.v (.str e186_), [])), (3, (.v (.int .i64 b187_), []))], [], []⟩ ∧ pimpl_nameOk_L1 k e186_ m b187_ = some out1) ?_ k ⟨_, rfl, h188⟩
    rintro m st ⟨b187_, rfl, h188⟩
    cases m with
    | zero => exact (onone h188).elim
    | succ m =>
      refine Wc.seq ?_
      refine Wc.seq ?_
      refine Wc.region [] [] [0, 3, 7] [] [] ⟨[(0, (.v (.str e186_), [])), (3, (.v (.int .i64 b187_), [])), (7, (.v (.bool (decide (b187_ < (e186_.size : Int)))), []))], [], []⟩ _ (by kernel_rfl) .nil ?_
      rcases oif h188 with ⟨h189, h188⟩ | ⟨h189, h188⟩
      · refine Wc.condT h189 (by kernel_rfl) ?_
        refine Wc.fix (st' := ⟨[(0, (.v (.str e186_), [])), (3, (.v (.int .i64 b187_), []))], [], []⟩) [] [0, 3] [] [] (by kernel_rfl) ?_
        refine Wc.skip ?_
        refine Wc.seq ?_
        refine Wc.block ?_
        refine Wc.seq ?_
        obtain ⟨h190, h188⟩ := oguard h188
        obtain ⟨f188_, h191, h188⟩ := obind h188
        rcases oif h188 with ⟨h192, h188⟩ | ⟨h192, h188⟩
        · refine Wc.region [{}, {}, {}, {}, { r := some (.v (.bool f188_) []) }, {}, { re := some (.bool true) }] [] [0, 3, 27] [] [] ⟨[(0, (.v (.str e186_), [])), (3, (.v (.int .i64 b187_), [])), (27, (.v (.bool true), []))], [], []⟩ _ (by kernel_rfl) (.cons h190 (.cons (cimpl_within h191) (.cons (congrArg AV.bool h192) .nil))) ?_
          refine Wc.condT rfl (by kernel_rfl) ?_
          refine Wc.seq ?_
          refine Wc.region [] [] [2] [] [] ⟨[(2, (.v (.bool false), []))], [], []⟩ _ (by kernel_rfl) .nil ?_
          refine Wc.ret ?_
          obtain rfl := Option.some.inj h188
          obtain rfl := Option.some.inj h
          exact ⟨.inl rfl, by kernel_rfl, by kernel_rfl⟩
        · obtain ⟨h193, h188⟩ := oguard h188
          rcases oif h188 with ⟨h194, h188⟩ | ⟨h194, h188⟩
          · refine Wc.region [{}, {}, {}, {}, { r := some (.v (.bool f188_) []) }, {}, { re := some (.bool false) }, {}, {}, {}, {}, {}, { re := some (.bool true) }] [] [0, 3, 27] [] [] ⟨[(0, (.v (.str e186_), [])), (3, (.v (.int .i64 b187_), [])), (27, (.v (.bool true), []))], [], []⟩ _ (by kernel_rfl) (.cons h190 (.cons (cimpl_within h191) (.cons (congrArg AV.bool h192) (.cons h193 (.cons (congrArg AV.bool h194) .nil))))) ?_
            refine Wc.condT rfl (by kernel_rfl) ?_
            refine Wc.seq ?_
            refine Wc.region [] [] [2] [] [] ⟨[(2, (.v (.bool false), []))], [], []⟩ _ (by kernel_rfl) .nil ?_
            refine Wc.ret ?_
            obtain rfl := Option.some.inj h188
            obtain rfl := Option.some.inj h
            exact ⟨.inl rfl, by kernel_rfl, by kernel_rfl⟩
          · obtain ⟨h195, h188⟩ := oguard h188
            refine Wc.region [{}, {}, {}, {}, { r := some (.v (.bool f188_) []) }, {}, { re := some (.bool false) }, {}, {}, {}, {}, {}, { re := some (.bool false) }] [] [0, 3, 27] [] [] ⟨[(0, (.v (.str e186_), [])), (3, (.v (.int .i64 b187_), [])), (27, (.v (.bool ((bt e186_ b187_) == 34)), []))], [], []⟩ _ (by kernel_rfl) (.cons h190 (.cons (cimpl_within h191) (.cons (congrArg AV.bool h192) (.cons h193 (.cons (congrArg AV.bool h194) (.cons h195 .nil)))))) ?_
            rcases oif h188 with ⟨h196, h188⟩ | ⟨h196, h188⟩
            · refine Wc.condT h196 (by kernel_rfl) ?_
              refine Wc.seq ?_
              refine Wc.region [] [] [2] [] [] ⟨[(2, (.v (.bool false), []))], [], []⟩ _ (by kernel_rfl) .nil ?_
              refine Wc.ret ?_
              obtain rfl := Option.some.inj h188
              obtain rfl := Option.some.inj h
              exact ⟨.inl rfl, by kernel_rfl, by kernel_rfl⟩
            · refine Wc.condF h196 (by kernel_rfl) ?_
              refine Wc.fix (st' := ⟨[(0, (.v (.str e186_), [])), (3, (.v (.int .i64 b187_), []))], [], []⟩) [] [0, 3] [] [] (by kernel_rfl) ?_
              refine Wc.skip ?_
              refine Wc.region [] [] [0, 3] [] [] ⟨[(0, (.v (.str e186_), [])), (3, (.v (.int .i64 (wr.i64 (b187_ + 1))), []))], [], []⟩ _ (by kernel_rfl) .nil ?_
              exact ⟨_, Nat.lt_succ_self _, _, rfl, h188⟩
      · refine Wc.condF h189 (by kernel_rfl) ?_
        refine Wc.fix (st' := ⟨[(0, (.v (.str e186_), []))], [], []⟩) [] [0] [] [] (by kernel_rfl) ?_
        refine Wc.exit ?_
        obtain rfl := Option.some.inj h188
        exact ⟨rfl, rfl⟩
  · rintro st ⟨rfl, rfl⟩
    refine Wc.seq ?_
    obtain ⟨f189_, h197, h⟩ := obind h
    refine Wc.region [{}, {}, { r := some (.v (.bool f189_) []) }] [] [2] [] [] ⟨[(2, (.v (.bool f189_), []))], [], []⟩ _ (by kernel_rfl) (.cons (cimpl_within h197) .nil) ?_
    refine Wc.ret ?_
    obtain rfl := Option.some.inj h
    exact ⟨.inl rfl, by kernel_rfl, by kernel_rfl⟩

def pimpl_sized_L2 (k : Nat) (rimpl_sized : GTerm → Int → Option Int) (c190_ : GTerm) (b191_ : Int) : Nat → Int → Int → Option (Out Int Int)
  | 0, _, _ => none
  | m + 1, b192_, b193_ =>
    if (decide (b193_ < (c190_.gKids.length : Int))) = true then
      (at' c190_.gKids b193_).bind fun c195_ =>
      (rimpl_sized c195_ (wr.i64 (b191_ + 1))).bind fun b196_ =>
      if (decide ((wr.i64 (b192_ + b196_)) > 400)) = true then
        some (.ret 401)
      else
        pimpl_sized_L2 k rimpl_sized c190_ b191_ m (wr.i64 (b192_ + b196_)) (wr.i64 (b193_ + 1))
    else
      some (.done b192_)
def pimpl_sized_J1 (k : Nat) (rimpl_sized : GTerm → Int → Option Int) (c190_ : GTerm) (b191_ : Int) : Option Int :=
  (pimpl_sized_L2 k rimpl_sized c190_ b191_ k 1 0).bind fun out2 => match out2 with
  | .ret r => some r
  | .done b194_ =>
    some b194_
mutual
/-- impl.sized -/
def pimpl_sized : Nat → GTerm → Int → Option Int
  | 0, _, _ => none
  | k + 1, c190_, b191_ =>
    if (decide (b191_ > 40)) = true then
      some 401
    else
      if (c190_.gKind == 1) = true then
        if (!(sEq c190_.gName (bs []))) = true then
          some 401
        else
          (pimpl_within k c190_.gNum 0 99999).bind fun f197_ =>
          if (!f197_) = true then
            some 401
          else
            if (decide ((c190_.gKids.length : Int) > 0)) = true then
              some 401
            else
              pimpl_sized_J1 k (pimpl_sized k) c190_ b191_
      else
        if (c190_.gKind == 2) = true then
          (pimpl_nameOk k c190_.gName).bind fun f198_ =>
          if (!f198_) = true then
            some 401
          else
            if (c190_.gNum != 0) = true then
              some 401
            else
              if (decide ((c190_.gKids.length : Int) > 0)) = true then
                some 401
              else
                pimpl_sized_J1 k (pimpl_sized k) c190_ b191_
        else
          if (c190_.gKind == 3) = true then
            if (!(sEq c190_.gName (bs []))) = true then
              some 401
            else
              (pimpl_within k c190_.gNum (-999999999) 999999999).bind fun f199_ =>
              if (!f199_) = true then
                some 401
              else
                if (decide ((c190_.gKids.length : Int) > 0)) = true then
                  some 401
                else
                  pimpl_sized_J1 k (pimpl_sized k) c190_ b191_
          else
            if (c190_.gKind == 4) = true then
              (pimpl_nameOk k c190_.gName).bind fun f200_ =>
              if (!f200_) = true then
                some 401
              else
                if (c190_.gNum != 0) = true then
                  some 401
                else
                  (pimpl_within k (c190_.gKids.length : Int) 1 5).bind fun f201_ =>
                  if (!f201_) = true then
                    some 401
                  else
                    pimpl_sized_J1 k (pimpl_sized k) c190_ b191_
            else
              some 401
end
theorem all_pimpl_sized : ∀ k : Nat, (∀ {c190_ : GTerm} {b191_ : Int} {r : Int}, pimpl_sized k c190_ b191_ = some r → FnO Try.prog 125 [.v (.agg [.int .i64 c190_.gKind, .str c190_.gName, .int .i64 c190_.gNum, .sl (List.map GTerm.c c190_.gKids)]) [], .v (.int .i64 b191_) []] (.v (.int .i64 r) []) []) := by
  intro k
  induction k with
  | zero =>
    · intro c190_ b191_ r h
      exact (onone (by rw [pimpl_sized] at h; exact h)).elim
  | succ k ih =>
    have ih_pimpl_sized := @ih
    · intro c190_ b191_ r h
      rw [pimpl_sized] at h
      refine FnO.of Try.func125 (rfl : Try.f125.body = some _) (Nat.le_of_ble_eq_true (by kernel_rfl)) (Nat.le_of_ble_eq_true (by kernel_rfl)) ?_
      intro w0 X0 Fin pv0 pb
      refine Wc.seq ?_
      refine Wc.region [] [] [1, 2] [2] [] ⟨[(1, (.v (.int .i64 b191_), [])), (2, (.ptr 2 0, []))], [(2, .cells [.int .i64 c190_.gKind, .str c190_.gName, .int .i64 c190_.gNum, .sl (List.map GTerm.c c190_.gKids)] [])], []⟩ _ (by kernel_rfl) .nil ?_
      refine Wc.seq ?_
      refine Wc.seq ?_
      refine Wc.region [] [] [1, 2, 9] [2] [] ⟨[(1, (.v (.int .i64 b191_), [])), (2, (.ptr 2 0, [])), (9, (.v (.bool (decide (b191_ > 40))), []))], [(2, .cells [.int .i64 c190_.gKind, .str c190_.gName, .int .i64 c190_.gNum, .sl (List.map GTerm.c c190_.gKids)] [])], []⟩ _ (by kernel_rfl) .nil ?_
      rcases oif h with ⟨h198, h⟩ | ⟨h198, h⟩
      · refine Wc.condT h198 (by kernel_rfl) ?_
        refine Wc.seq ?_
        refine Wc.region [] [] [4] [] [] ⟨[(4, (.v (.int .i64 401), []))], [], []⟩ _ (by kernel_rfl) .nil ?_
        refine Wc.ret ?_
        obtain rfl := Option.some.inj h
        exact ⟨.inl rfl, by kernel_rfl, by kernel_rfl⟩
      · refine Wc.condF h198 (by kernel_rfl) ?_
        refine Wc.fix (st' := ⟨[(1, (.v (.int .i64 b191_), [])), (2, (.ptr 2 0, []))], [(2, .cells [.int .i64 c190_.gKind, .str c190_.gName, .int .i64 c190_.gNum, .sl (List.map GTerm.c c190_.gKids)] [])], []⟩) [] [1, 2] [2] [] (by kernel_rfl) ?_
        refine Wc.skip ?_
        refine Wc.seqJ (fun st => st = ⟨[(1, (.v (.int .i64 b191_), [])), (2, (.ptr 2 0, []))], [(2, .cells [.int .i64 c190_.gKind, .str c190_.gName, .int .i64 c190_.gNum, .sl (List.map GTerm.c c190_.gKids)] [])], []⟩ ∧ pimpl_sized_J1 k (pimpl_sized k) c190_ b191_ = some r) ?_ ?_
        · refine Wc.seq ?_
          refine Wc.region [] [] [1, 2, 11] [2] [] ⟨[(1, (.v (.int .i64 b191_), [])), (2, (.ptr 2 0, [])), (11, (.v (.int .i64 c190_.gKind), []))], [(2, .cells [.int .i64 c190_.gKind, .str c190_.gName, .int .i64 c190_.gNum, .sl (List.map GTerm.c c190_.gKids)] [])], []⟩ _ (by kernel_rfl) .nil ?_
          refine Wc.block ?_
          refine Wc.seq ?_
          refine Wc.region [] [] [1, 2, 11, 12] [2] [] ⟨[(1, (.v (.int .i64 b191_), [])), (2, (.ptr 2 0, [])), (11, (.v (.int .i64 c190_.gKind), [])), (12, (.v (.bool (c190_.gKind == 1)), []))], [(2, .cells [.int .i64 c190_.gKind, .str c190_.gName, .int .i64 c190_.gNum, .sl (List.map GTerm.c c190_.gKids)] [])], []⟩ _ (by kernel_rfl) .nil ?_
          rcases oif h with ⟨h204, h⟩ | ⟨h204, h⟩
          · refine Wc.condT h204 (by kernel_rfl) ?_
            refine Wc.seq ?_
            rcases oif h with ⟨h205, h⟩ | ⟨h205, h⟩
            · refine Wc.region [{}, {}, {}, { re := some (.bool true) }] [] [1, 2, 28] [2] [] ⟨[(1, (.v (.int .i64 b191_), [])), (2, (.ptr 2 0, [])), (28, (.v (.bool true), []))], [(2, .cells [.int .i64 c190_.gKind, .str c190_.gName, .int .i64 c190_.gNum, .sl (List.map GTerm.c c190_.gKids)] [])], []⟩ _ (by kernel_rfl) (.cons (congrArg AV.bool h205) .nil) ?_
              refine Wc.condT rfl (by kernel_rfl) ?_
              refine Wc.seq ?_
              refine Wc.region [] [] [4] [] [] ⟨[(4, (.v (.int .i64 401), []))], [], []⟩ _ (by kernel_rfl) .nil ?_
              refine Wc.ret ?_
              obtain rfl := Option.some.inj h
              exact ⟨.inl rfl, by kernel_rfl, by kernel_rfl⟩
            · obtain ⟨f197_, h206, h⟩ := obind h
              rcases oif h with ⟨h207, h⟩ | ⟨h207, h⟩
              · refine Wc.region [{}, {}, {}, { re := some (.bool false) }, {}, {}, { r := some (.v (.bool f197_) []) }, {}, {}, { re := some (.bool true) }] [] [1, 2, 28] [2] [] ⟨[(1, (.v (.int .i64 b191_), [])), (2, (.ptr 2 0, [])), (28, (.v (.bool true), []))], [(2, .cells [.int .i64 c190_.gKind, .str c190_.gName, .int .i64 c190_.gNum, .sl (List.map GTerm.c c190_.gKids)] [])], []⟩ _ (by kernel_rfl) (.cons (congrArg AV.bool h205) (.cons (cimpl_within h206) (.cons (congrArg AV.bool h207) .nil))) ?_
                refine Wc.condT rfl (by kernel_rfl) ?_
                refine Wc.seq ?_
                refine Wc.region [] [] [4] [] [] ⟨[(4, (.v (.int .i64 401), []))], [], []⟩ _ (by kernel_rfl) .nil ?_
                refine Wc.ret ?_
                obtain rfl := Option.some.inj h
                exact ⟨.inl rfl, by kernel_rfl, by kernel_rfl⟩
              · refine Wc.region [{}, {}, {}, { re := some (.bool false) }, {}, {}, { r := some (.v (.bool f197_) []) }, {}, {}, { re := some (.bool false) }, {}, {}, { v := some (.int .i64 (c190_.gKids.length : Int)) }] [] [1, 2, 28] [2] [] ⟨[(1, (.v (.int .i64 b191_), [])), (2, (.ptr 2 0, [])), (28, (.v (.bool (decide ((c190_.gKids.length : Int) > 0))), []))], [(2, .cells [.int .i64 c190_.gKind, .str c190_.gName, .int .i64 c190_.gNum, .sl (List.map GTerm.c c190_.gKids)] [])], []⟩ _ (by kernel_rfl) (.cons (congrArg AV.bool h205) (.cons (cimpl_within h206) (.cons (congrArg AV.bool h207) (.cons (len_obl GTerm.c c190_.gKids) .nil)))) ?_
                rcases oif h with ⟨h208, h⟩ | ⟨h208, h⟩
                · refine Wc.condT h208 (by kernel_rfl) ?_
                  refine Wc.seq ?_
                  refine Wc.region [] [] [4] [] [] ⟨[(4, (.v (.int .i64 401), []))], [], []⟩ _ (by kernel_rfl) .nil ?_
                  refine Wc.ret ?_
                  obtain rfl := Option.some.inj h
                  exact ⟨.inl rfl, by kernel_rfl, by kernel_rfl⟩
                · refine Wc.condF h208 (by kernel_rfl) ?_
                  refine Wc.fix (st' := ⟨[(1, (.v (.int .i64 b191_), [])), (2, (.ptr 2 0, []))], [(2, .cells [.int .i64 c190_.gKind, .str c190_.gName, .int .i64 c190_.gNum, .sl (List.map GTerm.c c190_.gKids)] [])], []⟩) [] [1, 2] [2] [] (by kernel_rfl) ?_
                  refine Wc.skip ?_
                  exact ⟨rfl, h⟩
          · refine Wc.condF h204 (by kernel_rfl) ?_
            refine Wc.seq ?_
            refine Wc.region [] [] [1, 2, 11, 29] [2] [] ⟨[(1, (.v (.int .i64 b191_), [])), (2, (.ptr 2 0, [])), (11, (.v (.int .i64 c190_.gKind), [])), (29, (.v (.bool (c190_.gKind == 2)), []))], [(2, .cells [.int .i64 c190_.gKind, .str c190_.gName, .int .i64 c190_.gNum, .sl (List.map GTerm.c c190_.gKids)] [])], []⟩ _ (by kernel_rfl) .nil ?_
            rcases oif h with ⟨h209, h⟩ | ⟨h209, h⟩
            · refine Wc.condT h209 (by kernel_rfl) ?_
              refine Wc.seq ?_
              obtain ⟨f198_, h210, h⟩ := obind h
              rcases oif h with ⟨h211, h⟩ | ⟨h211, h⟩
              · refine Wc.region [{}, {}, { r := some (.v (.bool f198_) []) }, {}, { re := some (.bool true) }] [] [1, 2, 45] [2] [] ⟨[(1, (.v (.int .i64 b191_), [])), (2, (.ptr 2 0, [])), (45, (.v (.bool true), []))], [(2, .cells [.int .i64 c190_.gKind, .str c190_.gName, .int .i64 c190_.gNum, .sl (List.map GTerm.c c190_.gKids)] [])], []⟩ _ (by kernel_rfl) (.cons (cimpl_nameOk h210) (.cons (congrArg AV.bool h211) .nil)) ?_
                refine Wc.condT rfl (by kernel_rfl) ?_
                refine Wc.seq ?_
                refine Wc.region [] [] [4] [] [] ⟨[(4, (.v (.int .i64 401), []))], [], []⟩ _ (by kernel_rfl) .nil ?_
                refine Wc.ret ?_
                obtain rfl := Option.some.inj h
                exact ⟨.inl rfl, by kernel_rfl, by kernel_rfl⟩
              · rcases oif h with ⟨h212, h⟩ | ⟨h212, h⟩
                · refine Wc.region [{}, {}, { r := some (.v (.bool f198_) []) }, {}, { re := some (.bool false) }, {}, {}, {}, {}, { re := some (.bool true) }] [] [1, 2, 45] [2] [] ⟨[(1, (.v (.int .i64 b191_), [])), (2, (.ptr 2 0, [])), (45, (.v (.bool true), []))], [(2, .cells [.int .i64 c190_.gKind, .str c190_.gName, .int .i64 c190_.gNum, .sl (List.map GTerm.c c190_.gKids)] [])], []⟩ _ (by kernel_rfl) (.cons (cimpl_nameOk h210) (.cons (congrArg AV.bool h211) (.cons (congrArg AV.bool h212) .nil))) ?_
                  refine Wc.condT rfl (by kernel_rfl) ?_
                  refine Wc.seq ?_
                  refine Wc.region [] [] [4] [] [] ⟨[(4, (.v (.int .i64 401), []))], [], []⟩ _ (by kernel_rfl) .nil ?_
                  refine Wc.ret ?_
                  obtain rfl := Option.some.inj h
                  exact ⟨.inl rfl, by kernel_rfl, by kernel_rfl⟩
                · refine Wc.region [{}, {}, { r := some (.v (.bool f198_) []) }, {}, { re := some (.bool false) }, {}, {}, {}, {}, { re := some (.bool false) }, {}, {}, { v := some (.int .i64 (c190_.gKids.length : Int)) }] [] [1, 2, 45] [2] [] ⟨[(1, (.v (.int .i64 b191_), [])), (2, (.ptr 2 0, [])), (45, (.v (.bool (decide ((c190_.gKids.length : Int) > 0))), []))], [(2, .cells [.int .i64 c190_.gKind, .str c190_.gName, .int .i64 c190_.gNum, .sl (List.map GTerm.c c190_.gKids)] [])], []⟩ _ (by kernel_rfl) (.cons (cimpl_nameOk h210) (.cons (congrArg AV.bool h211) (.cons (congrArg AV.bool h212) (.cons (len_obl GTerm.c c190_.gKids) .nil)))) ?_
                  rcases oif h with ⟨h213, h⟩ | ⟨h213, h⟩
                  · refine Wc.condT h213 (by kernel_rfl) ?_
                    refine Wc.seq ?_
                    refine Wc.region [] [] [4] [] [] ⟨[(4, (.v (.int .i64 401), []))], [], []⟩ _ (by kernel_rfl) .nil ?_
                    refine Wc.ret ?_
                    obtain rfl := Option.some.inj h
                    exact ⟨.inl rfl, by kernel_rfl, by kernel_rfl⟩
                  · refine Wc.condF h213 (by kernel_rfl) ?_
                    refine Wc.fix (st' := ⟨[(1, (.v (.int .i64 b191_), [])), (2, (.ptr 2 0, []))], [(2, .cells [.int .i64 c190_.gKind, .str c190_.gName, .int .i64 c190_.gNum, .sl (List.map GTerm.c c190_.gKids)] [])], []⟩) [] [1, 2] [2] [] (by kernel_rfl) ?_
                    refine Wc.skip ?_
                    exact ⟨rfl, h⟩
            · refine Wc.condF h209 (by kernel_rfl) ?_
              refine Wc.seq ?_
              refine Wc.region [] [] [1, 2, 11, 46] [2] [] ⟨[(1, (.v (.int .i64 b191_), [])), (2, (.ptr 2 0, [])), (11, (.v (.int .i64 c190_.gKind), [])), (46, (.v (.bool (c190_.gKind == 3)), []))], [(2, .cells [.int .i64 c190_.gKind, .str c190_.gName, .int .i64 c190_.gNum, .sl (List.map GTerm.c c190_.gKids)] [])], []⟩ _ (by kernel_rfl) .nil ?_
              rcases oif h with ⟨h214, h⟩ | ⟨h214, h⟩
              · refine Wc.condT h214 (by kernel_rfl) ?_
                refine Wc.seq ?_
                rcases oif h with ⟨h215, h⟩ | ⟨h215, h⟩
                · refine Wc.region [{}, {}, {}, { re := some (.bool true) }] [] [1, 2, 62] [2] [] ⟨[(1, (.v (.int .i64 b191_), [])), (2, (.ptr 2 0, [])), (62, (.v (.bool true), []))], [(2, .cells [.int .i64 c190_.gKind, .str c190_.gName, .int .i64 c190_.gNum, .sl (List.map GTerm.c c190_.gKids)] [])], []⟩ _ (by kernel_rfl) (.cons (congrArg AV.bool h215) .nil) ?_
                  refine Wc.condT rfl (by kernel_rfl) ?_
                  refine Wc.seq ?_
                  refine Wc.region [] [] [4] [] [] ⟨[(4, (.v (.int .i64 401), []))], [], []⟩ _ (by kernel_rfl) .nil ?_
                  refine Wc.ret ?_
                  obtain rfl := Option.some.inj h
                  exact ⟨.inl rfl, by kernel_rfl, by kernel_rfl⟩
                · obtain ⟨f199_, h216, h⟩ := obind h
                  rcases oif h with ⟨h217, h⟩ | ⟨h217, h⟩
                  · refine Wc.region [{}, {}, {}, { re := some (.bool false) }, {}, {}, { r := some (.v (.bool f199_) []) }, {}, {}, { re := some (.bool true) }] [] [1, 2, 62] [2] [] ⟨[(1, (.v (.int .i64 b191_), [])), (2, (.ptr 2 0, [])), (62, (.v (.bool true), []))], [(2, .cells [.int .i64 c190_.gKind, .str c190_.gName, .int .i64 c190_.gNum, .sl (List.map GTerm.c c190_.gKids)] [])], []⟩ _ (by kernel_rfl) (.cons (congrArg AV.bool h215) (.cons (cimpl_within h216) (.cons (congrArg AV.bool h217) .nil))) ?_
                    refine Wc.condT rfl (by kernel_rfl) ?_
                    refine Wc.seq ?_
                    refine Wc.region [] [] [4] [] [] ⟨[(4, (.v (.int .i64 401), []))], [], []⟩ _ (by kernel_rfl) .nil ?_
                    refine Wc.ret ?_
                    obtain rfl := Option.some.inj h
                    exact ⟨.inl rfl, by kernel_rfl, by kernel_rfl⟩
                  · refine Wc.region [{}, {}, {}, { re := some (.bool false) }, {}, {}, { r := some (.v (.bool f199_) []) }, {}, {}, { re := some (.bool false) }, {}, {}, { v := some (.int .i64 (c190_.gKids.length : Int)) }] [] [1, 2, 62] [2] [] ⟨[(1, (.v (.int .i64 b191_), [])), (2, (.ptr 2 0, [])), (62, (.v (.bool (decide ((c190_.gKids.length : Int) > 0))), []))], [(2, .cells [.int .i64 c190_.gKind, .str c190_.gName, .int .i64 c190_.gNum, .sl (List.map GTerm.c c190_.gKids)] [])], []⟩ _ (by kernel_rfl) (.cons (congrArg AV.bool h215) (.cons (cimpl_within h216) (.cons (congrArg AV.bool h217) (.cons (len_obl GTerm.c c190_.gKids) .nil)))) ?_
                    rcases oif h with ⟨h218, h⟩ | ⟨h218, h⟩
                    · refine Wc.condT h218 (by kernel_rfl) ?_
                      refine Wc.seq ?_
                      refine Wc.region [] [] [4] [] [] ⟨[(4, (.v (.int .i64 401), []))], [], []⟩ _ (by kernel_rfl) .nil ?_
                      refine Wc.ret ?_
                      obtain rfl := Option.some.inj h
                      exact ⟨.inl rfl, by kernel_rfl, by kernel_rfl⟩
                    · refine Wc.condF h218 (by kernel_rfl) ?_
                      refine Wc.fix (st' := ⟨[(1, (.v (.int .i64 b191_), [])), (2, (.ptr 2 0, []))], [(2, .cells [.int .i64 c190_.gKind, .str c190_.gName, .int .i64 c190_.gNum, .sl (List.map GTerm.c c190_.gKids)] [])], []⟩) [] [1, 2] [2] [] (by kernel_rfl) ?_
                      refine Wc.skip ?_
                      exact ⟨rfl, h⟩
              · refine Wc.condF h214 (by kernel_rfl) ?_
                refine Wc.seq ?_
                refine Wc.region [] [] [1, 2, 63] [2] [] ⟨[(1, (.v (.int .i64 b191_), [])), (2, (.ptr 2 0, [])), (63, (.v (.bool (c190_.gKind == 4)), []))], [(2, .cells [.int .i64 c190_.gKind, .str c190_.gName, .int .i64 c190_.gNum, .sl (List.map GTerm.c c190_.gKids)] [])], []⟩ _ (by kernel_rfl) .nil ?_
                rcases oif h with ⟨h219, h⟩ | ⟨h219, h⟩
                · refine Wc.condT h219 (by kernel_rfl) ?_
                  refine Wc.seq ?_
                  obtain ⟨f200_, h220, h⟩ := obind h
                  rcases oif h with ⟨h221, h⟩ | ⟨h221, h⟩
                  · refine Wc.region [{}, {}, { r := some (.v (.bool f200_) []) }, {}, { re := some (.bool true) }] [] [1, 2, 80] [2] [] ⟨[(1, (.v (.int .i64 b191_), [])), (2, (.ptr 2 0, [])), (80, (.v (.bool true), []))], [(2, .cells [.int .i64 c190_.gKind, .str c190_.gName, .int .i64 c190_.gNum, .sl (List.map GTerm.c c190_.gKids)] [])], []⟩ _ (by kernel_rfl) (.cons (cimpl_nameOk h220) (.cons (congrArg AV.bool h221) .nil)) ?_
                    refine Wc.condT rfl (by kernel_rfl) ?_
                    refine Wc.seq ?_
                    refine Wc.region [] [] [4] [] [] ⟨[(4, (.v (.int .i64 401), []))], [], []⟩ _ (by kernel_rfl) .nil ?_
                    refine Wc.ret ?_
                    obtain rfl := Option.some.inj h
                    exact ⟨.inl rfl, by kernel_rfl, by kernel_rfl⟩
                  · rcases oif h with ⟨h222, h⟩ | ⟨h222, h⟩
                    · refine Wc.region [{}, {}, { r := some (.v (.bool f200_) []) }, {}, { re := some (.bool false) }, {}, {}, {}, {}, { re := some (.bool true) }] [] [1, 2, 80] [2] [] ⟨[(1, (.v (.int .i64 b191_), [])), (2, (.ptr 2 0, [])), (80, (.v (.bool true), []))], [(2, .cells [.int .i64 c190_.gKind, .str c190_.gName, .int .i64 c190_.gNum, .sl (List.map GTerm.c c190_.gKids)] [])], []⟩ _ (by kernel_rfl) (.cons (cimpl_nameOk h220) (.cons (congrArg AV.bool h221) (.cons (congrArg AV.bool h222) .nil))) ?_
                      refine Wc.condT rfl (by kernel_rfl) ?_
                      refine Wc.seq ?_
                      refine Wc.region [] [] [4] [] [] ⟨[(4, (.v (.int .i64 401), []))], [], []⟩ _ (by kernel_rfl) .nil ?_
                      refine Wc.ret ?_
                      obtain rfl := Option.some.inj h
                      exact ⟨.inl rfl, by kernel_rfl, by kernel_rfl⟩
                    · obtain ⟨f201_, h223, h⟩ := obind h
                      refine Wc.region [{}, {}, { r := some (.v (.bool f200_) []) }, {}, { re := some (.bool false) }, {}, {}, {}, {}, { re := some (.bool false) }, {}, {}, { v := some (.int .i64 (c190_.gKids.length : Int)) }, { r := some (.v (.bool f201_) []) }] [] [1, 2, 80] [2] [] ⟨[(1, (.v (.int .i64 b191_), [])), (2, (.ptr 2 0, [])), (80, (.v (.bool (!f201_)), []))], [(2, .cells [.int .i64 c190_.gKind, .str c190_.gName, .int .i64 c190_.gNum, .sl (List.map GTerm.c c190_.gKids)] [])], []⟩ _ (by kernel_rfl) (.cons (cimpl_nameOk h220) (.cons (congrArg AV.bool h221) (.cons (congrArg AV.bool h222) (.cons (len_obl GTerm.c c190_.gKids) (.cons (cimpl_within h223) .nil))))) ?_
                      rcases oif h with ⟨h224, h⟩ | ⟨h224, h⟩
                      · refine Wc.condT h224 (by kernel_rfl) ?_
                        refine Wc.seq ?_
                        refine Wc.region [] [] [4] [] [] ⟨[(4, (.v (.int .i64 401), []))], [], []⟩ _ (by kernel_rfl) .nil ?_
                        refine Wc.ret ?_
                        obtain rfl := Option.some.inj h
                        exact ⟨.inl rfl, by kernel_rfl, by kernel_rfl⟩
                      · refine Wc.condF h224 (by kernel_rfl) ?_
                        refine Wc.fix (st' := ⟨[(1, (.v (.int .i64 b191_), [])), (2, (.ptr 2 0, []))], [(2, .cells [.int .i64 c190_.gKind, .str c190_.gName, .int .i64 c190_.gNum, .sl (List.map GTerm.c c190_.gKids)] [])], []⟩) [] [1, 2] [2] [] (by kernel_rfl) ?_
                        refine Wc.skip ?_
                        exact ⟨rfl, h⟩
                · refine Wc.condF h219 (by kernel_rfl) ?_
                  refine Wc.seq ?_
                  refine Wc.region [] [] [4] [] [] ⟨[(4, (.v (.int .i64 401), []))], [], []⟩ _ (by kernel_rfl) .nil ?_
                  refine Wc.ret ?_
                  obtain rfl := Option.some.inj h
                  exact ⟨.inl rfl, by kernel_rfl, by kernel_rfl⟩
        · rintro st ⟨rfl, h⟩
          refine Wc.seq ?_
          refine Wc.region [] [] [1, 2, 5] [2] [] ⟨[(1, (.v (.int .i64 b191_), [])), (2, (.ptr 2 0, [])), (5, (.v (.int .i64 1), []))], [(2, .cells [.int .i64 c190_.gKind, .str c190_.gName, .int .i64 c190_.gNum, .sl (List.map GTerm.c c190_.gKids)] [])], []⟩ _ (by kernel_rfl) .nil ?_
          refine Wc.seq ?_
          refine Wc.seq ?_
          refine Wc.region [{}, {}, { v := some (.int .i64 (c190_.gKids.length : Int)) }] [] [1, 5, 82, 83, 84] [] [] ⟨[(1, (.v (.int .i64 b191_), [])), (5, (.v (.int .i64 1), [])), (82, (.v (.sl (List.map GTerm.c c190_.gKids)), [])), (83, (.v (.int .i64 (c190_.gKids.length : Int)), [])), (84, (.v (.int .i64 0), []))], [], []⟩ _ (by kernel_rfl) (.cons (len_obl GTerm.c c190_.gKids) .nil) ?_
          obtain ⟨out2, h199, h⟩ := obind h
          refine Wc.lastJ (fun st => ∃ (b194_ : Int), out2 = .done b194_ ∧ st = ⟨[(5, (.v (.int .i64 b194_), []))], [], []⟩) ?_ ?_
          · refine Wc.block ?_
            refine Wc.loop (fun m st => ∃ (b192_ : Int) (b193_ : Int), st = ⟨[(1, (.v (.int .i64 b191_), [])), (5, (.v (.int .i64 b192_), [])), (82, (.v (.sl (List.map GTerm.c c190_.gKids)), [])), (83, (.v (.int .i64 (c190_.gKids.length : Int)), [])), (84, (.v (.int .i64 b193_), []))], [], []⟩ ∧ pimpl_sized_L2 k (pimpl_sized k) c190_ b191_ m b192_ b193_ = some out2) ?_ k ⟨_, _, rfl, h199⟩
            rintro m st ⟨b192_, b193_, rfl, h199⟩
            cases m with
            | zero => exact (onone h199).elim
            | succ m =>
              refine Wc.seq ?_
              refine Wc.region [] [] [1, 5, 82, 83, 84, 85] [] [] ⟨[(1, (.v (.int .i64 b191_), [])), (5, (.v (.int .i64 b192_), [])), (82, (.v (.sl (List.map GTerm.c c190_.gKids)), [])), (83, (.v (.int .i64 (c190_.gKids.length : Int)), [])), (84, (.v (.int .i64 b193_), [])), (85, (.v (.bool (decide (b193_ < (c190_.gKids.length : Int)))), []))], [], []⟩ _ (by kernel_rfl) .nil ?_
              refine Wc.seq ?_
              rcases oif h199 with ⟨h200, h199⟩ | ⟨h200, h199⟩
              · refine Wc.condT h200 (by kernel_rfl) ?_
                refine Wc.fix (st' := ⟨[(1, (.v (.int .i64 b191_), [])), (5, (.v (.int .i64 b192_), [])), (82, (.v (.sl (List.map GTerm.c c190_.gKids)), [])), (83, (.v (.int .i64 (c190_.gKids.length : Int)), [])), (84, (.v (.int .i64 b193_), []))], [], []⟩) [] [1, 5, 82, 83, 84] [] [] (by kernel_rfl) ?_
                refine Wc.skip ?_
                refine Wc.seq ?_
                refine Wc.block ?_
                refine Wc.seq ?_
                obtain ⟨c195_, h201, h199⟩ := obind h199
                refine Wc.region [{ v := some (.vptr [.int .i64 c195_.gKind, .str c195_.gName, .int .i64 c195_.gNum, .sl (List.map GTerm.c c195_.gKids)]) }] [] [1, 5, 7, 82, 83, 84] [7] [] ⟨[(1, (.v (.int .i64 b191_), [])), (5, (.v (.int .i64 b192_), [])), (7, (.ptr 7 0, [])), (82, (.v (.sl (List.map GTerm.c c190_.gKids)), [])), (83, (.v (.int .i64 (c190_.gKids.length : Int)), [])), (84, (.v (.int .i64 b193_), []))], [(7, .cells [.int .i64 c195_.gKind, .str c195_.gName, .int .i64 c195_.gNum, .sl (List.map GTerm.c c195_.gKids)] [])], []⟩ _ (by kernel_rfl) (.cons (at_obl (c := GTerm.c) (GTerm.c_eq c195_) GTerm.c_len h201) (.cons (len_ok 4 [.int .i64 c195_.gKind, .str c195_.gName, .int .i64 c195_.gNum, .sl (List.map GTerm.c c195_.gKids)]) .nil)) ?_
                refine Wc.seq ?_
                obtain ⟨b196_, h202, h199⟩ := obind h199
                refine Wc.region [{}, {}, {}, {}, { r := some (.v (.int .i64 b196_) []) }] [] [1, 5, 82, 83, 84] [] [] ⟨[(1, (.v (.int .i64 b191_), [])), (5, (.v (.int .i64 (wr.i64 (b192_ + b196_))), [])), (82, (.v (.sl (List.map GTerm.c c190_.gKids)), [])), (83, (.v (.int .i64 (c190_.gKids.length : Int)), [])), (84, (.v (.int .i64 b193_), []))], [], []⟩ _ (by kernel_rfl) (.cons (ih_pimpl_sized h202) .nil) ?_
                refine Wc.seq ?_
                refine Wc.region [] [] [1, 5, 82, 83, 84, 95] [] [] ⟨[(1, (.v (.int .i64 b191_), [])), (5, (.v (.int .i64 (wr.i64 (b192_ + b196_))), [])), (82, (.v (.sl (List.map GTerm.c c190_.gKids)), [])), (83, (.v (.int .i64 (c190_.gKids.length : Int)), [])), (84, (.v (.int .i64 b193_), [])), (95, (.v (.bool (decide ((wr.i64 (b192_ + b196_)) > 400))), []))], [], []⟩ _ (by kernel_rfl) .nil ?_
                rcases oif h199 with ⟨h203, h199⟩ | ⟨h203, h199⟩
                · refine Wc.condT h203 (by kernel_rfl) ?_
                  refine Wc.seq ?_
                  refine Wc.region [] [] [4] [] [] ⟨[(4, (.v (.int .i64 401), []))], [], []⟩ _ (by kernel_rfl) .nil ?_
                  refine Wc.ret ?_
                  obtain rfl := Option.some.inj h199
                  obtain rfl := Option.some.inj h
                  exact ⟨.inl rfl, by kernel_rfl, by kernel_rfl⟩
                · refine Wc.condF h203 (by kernel_rfl) ?_
                  refine Wc.fix (st' := ⟨[(1, (.v (.int .i64 b191_), [])), (5, (.v (.int .i64 (wr.i64 (b192_ + b196_))), [])), (82, (.v (.sl (List.map GTerm.c c190_.gKids)), [])), (83, (.v (.int .i64 (c190_.gKids.length : Int)), [])), (84, (.v (.int .i64 b193_), []))], [], []⟩) [] [1, 5, 82, 83, 84] [] [] (by kernel_rfl) ?_
                  refine Wc.skip ?_
                  refine Wc.region [] [] [1, 5, 82, 83, 84] [] [] ⟨[(1, (.v (.int .i64 b191_), [])), (5, (.v (.int .i64 (wr.i64 (b192_ + b196_))), [])), (82, (.v (.sl (List.map GTerm.c c190_.gKids)), [])), (83, (.v (.int .i64 (c190_.gKids.length : Int)), [])), (84, (.v (.int .i64 (wr.i64 (b193_ + 1))), []))], [], []⟩ _ (by kernel_rfl) .nil ?_
                  exact ⟨_, Nat.lt_succ_self _, _, _, rfl, h199⟩
              · refine Wc.condF h200 (by kernel_rfl) ?_
                refine Wc.fix (st' := ⟨[(5, (.v (.int .i64 b192_), []))], [], []⟩) [] [5] [] [] (by kernel_rfl) ?_
                refine Wc.exit ?_
                obtain rfl := Option.some.inj h199
                exact ⟨_, rfl, rfl⟩
          · rintro st ⟨b194_, rfl, rfl⟩
            refine Wc.seq ?_
            refine Wc.region [] [] [4] [] [] ⟨[(4, (.v (.int .i64 b194_), []))], [], []⟩ _ (by kernel_rfl) .nil ?_
            refine Wc.ret ?_
            obtain rfl := Option.some.inj h
            exact ⟨.inl rfl, by kernel_rfl, by kernel_rfl⟩
theorem cimpl_sized {k : Nat} {c190_ : GTerm} {b191_ : Int} {r : Int} (h : pimpl_sized k c190_ b191_ = some r) : FnO Try.prog 125 [.v (.agg [.int .i64 c190_.gKind, .str c190_.gName, .int .i64 c190_.gNum, .sl (List.map GTerm.c c190_.gKids)]) [], .v (.int .i64 b191_) []] (.v (.int .i64 r) []) [] := (all_pimpl_sized k) h

/-- impl.TermOk -/
def pimpl_TermOk (k : Nat) (c202_ : GTerm) : Option Bool :=
  (pimpl_sized k c202_ 1).bind fun b203_ =>
  some (decide (b203_ ≤ 400))
theorem cimpl_TermOk {k : Nat} {c202_ : GTerm} {r : Bool} (h : pimpl_TermOk k c202_ = some r) : FnO Try.prog 81 [.v (.agg [.int .i64 c202_.gKind, .str c202_.gName, .int .i64 c202_.gNum, .sl (List.map GTerm.c c202_.gKids)]) []] (.v (.bool r) []) [] := by
  refine FnO.of Try.func81 (rfl : Try.f81.body = some _) (Nat.le_of_ble_eq_true (by kernel_rfl)) (Nat.le_of_ble_eq_true (by kernel_rfl)) ?_
  intro w0 X0 Fin pv0 pb
  unfold pimpl_TermOk at h
  refine Wc.seq ?_
  refine Wc.region [] [] [1] [1] [] ⟨[(1, (.ptr 1 0, []))], [(1, .cells [.int .i64 c202_.gKind, .str c202_.gName, .int .i64 c202_.gNum, .sl (List.map GTerm.c c202_.gKids)] [])], []⟩ _ (by kernel_rfl) .nil ?_
  refine Wc.seq ?_
  obtain ⟨b203_, h225, h⟩ := obind h
  refine Wc.region [{}, { r := some (.v (.int .i64 b203_) []) }] [] [2] [] [] ⟨[(2, (.v (.bool (decide (b203_ ≤ 400))), []))], [], []⟩ _ (by kernel_rfl) (.cons (cimpl_sized h225) .nil) ?_
  refine Wc.ret ?_
  obtain rfl := Option.some.inj h
  exact ⟨.inl rfl, by kernel_rfl, by kernel_rfl⟩

def pslices_Index___int_int__L1 (k : Nat) (g204_ : List Int) (b205_ : Int) : Nat → Int → Option (Out Int Unit)
  | 0, _ => none
  | m + 1, b206_ =>
    if (decide (b206_ < (g204_.length : Int))) = true then
      (at' g204_ b206_).bind fun b207_ =>
      if (b205_ == b207_) = true then
        some (.ret b206_)
      else
        pslices_Index___int_int__L1 k g204_ b205_ m (wr.i64 (b206_ + 1))
    else
      some (.done ())
/-- slices.Index[[]int,int] -/
def pslices_Index___int_int_ (k : Nat) (g204_ : List Int) (b205_ : Int) : Option Int :=
  (pslices_Index___int_int__L1 k g204_ b205_ k 0).bind fun out1 => match out1 with
  | .ret r => some r
  | .done () =>
    some (-1)
theorem cslices_Index___int_int_ {k : Nat} {g204_ : List Int} {b205_ : Int} {r : Int} (h : pslices_Index___int_int_ k g204_ b205_ = some r) : FnO Try.prog 146 [.v (.sl (List.map cI.i64 g204_)) [], .v (.int .i64 b205_) []] (.v (.int .i64 r) []) [] := by
  refine FnO.of Try.func146 (rfl : Try.f146.body = some _) (Nat.le_of_ble_eq_true (by kernel_rfl)) (Nat.le_of_ble_eq_true (by kernel_rfl)) ?_
  intro w0 X0 Fin pv0 pb
  unfold pslices_Index___int_int_ at h
  refine Wc.seq ?_
  refine Wc.region [] [] [0, 1] [] [] ⟨[(0, (.v (.sl (List.map cI.i64 g204_)), [])), (1, (.v (.int .i64 b205_), []))], [], []⟩ _ (by kernel_rfl) .nil ?_
  refine Wc.seq ?_
  refine Wc.seq ?_
  refine Wc.region [{}, { v := some (.int .i64 (g204_.length : Int)) }] [] [0, 1, 7, 8] [] [] ⟨[(0, (.v (.sl (List.map cI.i64 g204_)), [])), (1, (.v (.int .i64 b205_), [])), (7, (.v (.int .i64 (g204_.length : Int)), [])), (8, (.v (.int .i64 0), []))], [], []⟩ _ (by kernel_rfl) (.cons (len_obl cI.i64 g204_) .nil) ?_
  obtain ⟨out1, h226, h⟩ := obind h
  refine Wc.lastJ (fun st => out1 = .done () ∧ st = ⟨[], [], []⟩) ?_ ?_
  · refine Wc.block ?_
    refine Wc.loop (fun m st => ∃ (b206_ : Int), st = ⟨[(0, (.v (.sl (List.map cI.i64 g204_)), [])), (1, (.v (.int .i64 b205_), [])), (7, (.v (.int .i64 (g204_.length : Int)), [])), (8, (.v (.int .i64 b206_), []))], [], []⟩ ∧ pslices_Index___int_int__L1 k g204_ b205_ m b206_ = some out1) ?_ k ⟨_, rfl, h226⟩
    rintro m st ⟨b206_, rfl, h226⟩
    cases m with
    | zero => exact (onone h226).elim
    | succ m =>
      refine Wc.seq ?_
      refine Wc.region [] [] [0, 1, 7, 8, 9] [] [] ⟨[(0, (.v (.sl (List.map cI.i64 g204_)), [])), (1, (.v (.int .i64 b205_), [])), (7, (.v (.int .i64 (g204_.length : Int)), [])), (8, (.v (.int .i64 b206_), [])), (9, (.v (.bool (decide (b206_ < (g204_.length : Int)))), []))], [], []⟩ _ (by kernel_rfl) .nil ?_
      refine Wc.seq ?_
      rcases oif h226 with ⟨h227, h226⟩ | ⟨h227, h226⟩
      · refine Wc.condT h227 (by kernel_rfl) ?_
        refine Wc.fix (st' := ⟨[(0, (.v (.sl (List.map cI.i64 g204_)), [])), (1, (.v (.int .i64 b205_), [])), (7, (.v (.int .i64 (g204_.length : Int)), [])), (8, (.v (.int .i64 b206_), []))], [], []⟩) [] [0, 1, 7, 8] [] [] (by kernel_rfl) ?_
        refine Wc.skip ?_
        refine Wc.seq ?_
        refine Wc.block ?_
        refine Wc.seq ?_
        refine Wc.region [] [] [0, 1, 5, 7, 8] [] [] ⟨[(0, (.v (.sl (List.map cI.i64 g204_)), [])), (1, (.v (.int .i64 b205_), [])), (5, (.v (.int .i64 b206_), [])), (7, (.v (.int .i64 (g204_.length : Int)), [])), (8, (.v (.int .i64 b206_), []))], [], []⟩ _ (by kernel_rfl) .nil ?_
        refine Wc.seq ?_
        obtain ⟨b207_, h228, h226⟩ := obind h226
        refine Wc.region [{}, {}, {}, { v := some (.vptr [.int .i64 b207_]) }] [] [0, 1, 5, 7, 8, 16] [] [] ⟨[(0, (.v (.sl (List.map cI.i64 g204_)), [])), (1, (.v (.int .i64 b205_), [])), (5, (.v (.int .i64 b206_), [])), (7, (.v (.int .i64 (g204_.length : Int)), [])), (8, (.v (.int .i64 b206_), [])), (16, (.v (.bool (b205_ == b207_)), []))], [], []⟩ _ (by kernel_rfl) (.cons (at_obl (c := cI.i64) rfl cI.i64_len h228) (.cons (len_ok 1 [.int .i64 b207_]) .nil)) ?_
        rcases oif h226 with ⟨h229, h226⟩ | ⟨h229, h226⟩
        · refine Wc.condT h229 (by kernel_rfl) ?_
          refine Wc.seq ?_
          refine Wc.region [] [] [4] [] [] ⟨[(4, (.v (.int .i64 b206_), []))], [], []⟩ _ (by kernel_rfl) .nil ?_
          refine Wc.ret ?_
          obtain rfl := Option.some.inj h226
          obtain rfl := Option.some.inj h
          exact ⟨.inl rfl, by kernel_rfl, by kernel_rfl⟩
        · refine Wc.condF h229 (by kernel_rfl) ?_
          refine Wc.fix (st' := ⟨[(0, (.v (.sl (List.map cI.i64 g204_)), [])), (1, (.v (.int .i64 b205_), [])), (7, (.v (.int .i64 (g204_.length : Int)), [])), (8, (.v (.int .i64 b206_), []))], [], []⟩) [] [0, 1, 7, 8] [] [] (by kernel_rfl) ?_
          refine Wc.skip ?_
          refine Wc.region [] [] [0, 1, 7, 8] [] [] ⟨[(0, (.v (.sl (List.map cI.i64 g204_)), [])), (1, (.v (.int .i64 b205_), [])), (7, (.v (.int .i64 (g204_.length : Int)), [])), (8, (.v (.int .i64 (wr.i64 (b206_ + 1))), []))], [], []⟩ _ (by kernel_rfl) .nil ?_
          exact ⟨_, Nat.lt_succ_self _, _, rfl, h226⟩
      · refine Wc.condF h227 (by kernel_rfl) ?_
        refine Wc.fix (st' := ⟨[], [], []⟩) [] [] [] [] (by kernel_rfl) ?_
        refine Wc.exit ?_
        obtain rfl := Option.some.inj h226
        exact ⟨rfl, rfl⟩
  · rintro st ⟨rfl, rfl⟩
    refine Wc.seq ?_
    refine Wc.region [] [] [4] [] [] ⟨[(4, (.v (.int .i64 (-1)), []))], [], []⟩ _ (by kernel_rfl) .nil ?_
    refine Wc.ret ?_
    obtain rfl := Option.some.inj h
    exact ⟨.inl rfl, by kernel_rfl, by kernel_rfl⟩

/-- slices.Contains[[]int,int] -/
def pslices_Contains___int_int_ (k : Nat) (g208_ : List Int) (b209_ : Int) : Option Bool :=
  (pslices_Index___int_int_ k g208_ b209_).bind fun b210_ =>
  some (decide (b210_ ≥ 0))
theorem cslices_Contains___int_int_ {k : Nat} {g208_ : List Int} {b209_ : Int} {r : Bool} (h : pslices_Contains___int_int_ k g208_ b209_ = some r) : FnO Try.prog 126 [.v (.sl (List.map cI.i64 g208_)) [], .v (.int .i64 b209_) []] (.v (.bool r) []) [] := by
  refine FnO.of Try.func126 (rfl : Try.f126.body = some _) (Nat.le_of_ble_eq_true (by kernel_rfl)) (Nat.le_of_ble_eq_true (by kernel_rfl)) ?_
  intro w0 X0 Fin pv0 pb
  unfold pslices_Contains___int_int_ at h
  refine Wc.seq ?_
  refine Wc.region [] [] [0, 1] [] [] ⟨[(0, (.v (.sl (List.map cI.i64 g208_)), [])), (1, (.v (.int .i64 b209_), []))], [], []⟩ _ (by kernel_rfl) .nil ?_
  refine Wc.seq ?_
  obtain ⟨b210_, h230, h⟩ := obind h
  refine Wc.region [{}, {}, { r := some (.v (.int .i64 b210_) []) }] [] [4] [] [] ⟨[(4, (.v (.bool (decide (b210_ ≥ 0))), []))], [], []⟩ _ (by kernel_rfl) (.cons (cslices_Index___int_int_ h230) .nil) ?_
  refine Wc.ret ?_
  obtain rfl := Option.some.inj h
  exact ⟨.inl rfl, by kernel_rfl, by kernel_rfl⟩

def pimpl_wordsOf_L1 (k : Nat) (rimpl_wordsOf : GTerm → (List Int) → Option ((List GIns) × (List Int))) (c221_ : GTerm) : Nat → (List Int) → (List GIns) → Int → Option (Out ((List GIns) × (List Int)) ((List Int) × (List GIns)))
  | 0, _, _, _ => none
  | m + 1, g224_, i225_, b226_ =>
    if (decide (b226_ < (c221_.gKids.length : Int))) = true then
      (at' c221_.gKids b226_).bind fun c229_ =>
      (rimpl_wordsOf c229_ g224_).bind fun j230_ =>
      if i225_.length + j230_.1.length ≤ 1073741824 then
        pimpl_wordsOf_L1 k rimpl_wordsOf c221_ m j230_.2 (i225_ ++ j230_.1) (wr.i64 (b226_ + 1))
      else none
    else
      some (.done (g224_, i225_))
mutual
/-- impl.wordsOf -/
def pimpl_wordsOf : Nat → GTerm → (List Int) → Option ((List GIns) × (List Int))
  | 0, _, _ => none
  | k + 1, c221_, g222_ =>
    if (c221_.gKind == 2) = true then
      some ([GIns.mk 1 c221_.gName 0 0], g222_)
    else
      if (c221_.gKind == 3) = true then
        some ([GIns.mk 2 (bs []) c221_.gNum 0], g222_)
      else
        if (c221_.gKind == 1) = true then
          (pslices_Contains___int_int_ k g222_ c221_.gNum).bind fun f223_ =>
          if f223_ = true then
            some ([GIns.mk 4 (bs []) c221_.gNum 0], g222_)
          else
            if g222_.length + [c221_.gNum].length ≤ 1073741824 then
              some ([GIns.mk 3 (bs []) c221_.gNum 0], g222_ ++ [c221_.gNum])
            else none
        else
          (pimpl_wordsOf_L1 k (pimpl_wordsOf k) c221_ k g222_ [GIns.mk 5 c221_.gName 0 (c221_.gKids.length : Int)] 0).bind fun out1 => match out1 with
          | .ret r => some r
          | .done (g227_, i228_) =>
            some (i228_, g227_)
end
theorem all_pimpl_wordsOf : ∀ k : Nat, (∀ {c221_ : GTerm} {g222_ : List Int} {r : (List GIns) × (List Int)}, pimpl_wordsOf k c221_ g222_ = some r → FnO Try.prog 127 [.v (.agg [.int .i64 c221_.gKind, .str c221_.gName, .int .i64 c221_.gNum, .sl (List.map GTerm.c c221_.gKids)]) [], .v (.slx) [(0, .ex 3 false (List.map cI.i64 g222_))]] (.v (.tup [.sl (List.map GIns.c r.1), .slx]) [(0, .app 158), (1, .ex 3 false (List.map cI.i64 r.2))]) []) := by
  intro k
  induction k with
  | zero =>
    · intro c221_ g222_ r h
      exact (onone (by rw [pimpl_wordsOf] at h; exact h)).elim
  | succ k ih =>
    have ih_pimpl_wordsOf := @ih
    · intro c221_ g222_ r h
      rw [pimpl_wordsOf] at h
      refine FnO.of Try.func127 (rfl : Try.f127.body = some _) (Nat.le_of_ble_eq_true (by kernel_rfl)) (Nat.le_of_ble_eq_true (by kernel_rfl)) ?_
      intro w0 X0 Fin pv0 pb
      refine Wc.seq ?_
      refine Wc.region [] [] [1, 2] [2] [] ⟨[(1, (.v (.slx), [(0, .ex 3 false (List.map cI.i64 g222_))])), (2, (.ptr 2 0, []))], [(2, .cells [.int .i64 c221_.gKind, .str c221_.gName, .int .i64 c221_.gNum, .sl (List.map GTerm.c c221_.gKids)] [])], []⟩ _ (by kernel_rfl) .nil ?_
      refine Wc.seq ?_
      refine Wc.seq ?_
      refine Wc.region [] [] [1, 2, 11] [2] [] ⟨[(1, (.v (.slx), [(0, .ex 3 false (List.map cI.i64 g222_))])), (2, (.ptr 2 0, [])), (11, (.v (.int .i64 c221_.gKind), []))], [(2, .cells [.int .i64 c221_.gKind, .str c221_.gName, .int .i64 c221_.gNum, .sl (List.map GTerm.c c221_.gKids)] [])], []⟩ _ (by kernel_rfl) .nil ?_
      refine Wc.block ?_
      refine Wc.seq ?_
      refine Wc.region [] [] [1, 2, 11, 12] [2] [] ⟨[(1, (.v (.slx), [(0, .ex 3 false (List.map cI.i64 g222_))])), (2, (.ptr 2 0, [])), (11, (.v (.int .i64 c221_.gKind), [])), (12, (.v (.bool (c221_.gKind == 2)), []))], [(2, .cells [.int .i64 c221_.gKind, .str c221_.gName, .int .i64 c221_.gNum, .sl (List.map GTerm.c c221_.gKids)] [])], []⟩ _ (by kernel_rfl) .nil ?_
      rcases oif h with ⟨h242, h⟩ | ⟨h242, h⟩
      · refine Wc.condT h242 (by kernel_rfl) ?_
        refine Wc.seq ?_
        refine Wc.region [{}, {}, {}, { c := some (List.map GIns.c [GIns.mk 1 c221_.gName 0 0]) }, { tk := [1] }, { tk := [17] }, { tk := [18] }] [] [4, 5] [] [] ⟨[(4, (.v (.sl (List.map GIns.c [GIns.mk 1 c221_.gName 0 0])), [(0, .app 158)])), (5, (.v (.slx), [(0, .ex 3 false (List.map cI.i64 g222_))]))], [], []⟩ _ (by kernel_rfl) (.cons (cl_cons (c := GIns.c) (x := GIns.mk 1 c221_.gName 0 0) (GIns.c_eq (GIns.mk 1 c221_.gName 0 0)) (cl_nil GIns.c)) .nil) ?_
        refine Wc.ret ?_
        obtain rfl := Option.some.inj h
        exact ⟨.inl rfl, by kernel_rfl, by kernel_rfl⟩
      · refine Wc.condF h242 (by kernel_rfl) ?_
        refine Wc.seq ?_
        refine Wc.region [] [] [1, 2, 11, 19] [2] [] ⟨[(1, (.v (.slx), [(0, .ex 3 false (List.map cI.i64 g222_))])), (2, (.ptr 2 0, [])), (11, (.v (.int .i64 c221_.gKind), [])), (19, (.v (.bool (c221_.gKind == 3)), []))], [(2, .cells [.int .i64 c221_.gKind, .str c221_.gName, .int .i64 c221_.gNum, .sl (List.map GTerm.c c221_.gKids)] [])], []⟩ _ (by kernel_rfl) .nil ?_
        rcases oif h with ⟨h243, h⟩ | ⟨h243, h⟩
        · refine Wc.condT h243 (by kernel_rfl) ?_
          refine Wc.seq ?_
          refine Wc.region [{}, {}, {}, { c := some (List.map GIns.c [GIns.mk 2 (bs []) c221_.gNum 0]) }, { tk := [1] }, { tk := [24] }, { tk := [25] }] [] [4, 5] [] [] ⟨[(4, (.v (.sl (List.map GIns.c [GIns.mk 2 (bs []) c221_.gNum 0])), [(0, .app 158)])), (5, (.v (.slx), [(0, .ex 3 false (List.map cI.i64 g222_))]))], [], []⟩ _ (by kernel_rfl) (.cons (cl_cons (c := GIns.c) (x := GIns.mk 2 (bs []) c221_.gNum 0) (GIns.c_eq (GIns.mk 2 (bs []) c221_.gNum 0)) (cl_nil GIns.c)) .nil) ?_
          refine Wc.ret ?_
          obtain rfl := Option.some.inj h
          exact ⟨.inl rfl, by kernel_rfl, by kernel_rfl⟩
        · refine Wc.condF h243 (by kernel_rfl) ?_
          refine Wc.seq ?_
          refine Wc.region [] [] [1, 2, 26] [2] [] ⟨[(1, (.v (.slx), [(0, .ex 3 false (List.map cI.i64 g222_))])), (2, (.ptr 2 0, [])), (26, (.v (.bool (c221_.gKind == 1)), []))], [(2, .cells [.int .i64 c221_.gKind, .str c221_.gName, .int .i64 c221_.gNum, .sl (List.map GTerm.c c221_.gKids)] [])], []⟩ _ (by kernel_rfl) .nil ?_
          rcases oif h with ⟨h244, h⟩ | ⟨h244, h⟩
          · refine Wc.condT h244 (by kernel_rfl) ?_
            refine Wc.seq ?_
            refine Wc.seq ?_
            obtain ⟨f223_, h245, h⟩ := obind h
            refine Wc.region [{}, {}, {}, { r := some (.v (.bool f223_) []) }] [] [1, 2, 31] [2] [] ⟨[(1, (.v (.slx), [(0, .ex 3 false (List.map cI.i64 g222_))])), (2, (.ptr 2 0, [])), (31, (.v (.bool f223_), []))], [(2, .cells [.int .i64 c221_.gKind, .str c221_.gName, .int .i64 c221_.gNum, .sl (List.map GTerm.c c221_.gKids)] [])], []⟩ _ (by kernel_rfl) (.cons (cslices_Contains___int_int_ h245) .nil) ?_
            rcases oif h with ⟨h246, h⟩ | ⟨h246, h⟩
            · refine Wc.condT h246 (by kernel_rfl) ?_
              refine Wc.seq ?_
              refine Wc.region [{}, {}, {}, { c := some (List.map GIns.c [GIns.mk 4 (bs []) c221_.gNum 0]) }, { tk := [1] }, { tk := [35] }, { tk := [36] }] [] [4, 5] [] [] ⟨[(4, (.v (.sl (List.map GIns.c [GIns.mk 4 (bs []) c221_.gNum 0])), [(0, .app 158)])), (5, (.v (.slx), [(0, .ex 3 false (List.map cI.i64 g222_))]))], [], []⟩ _ (by kernel_rfl) (.cons (cl_cons (c := GIns.c) (x := GIns.mk 4 (bs []) c221_.gNum 0) (GIns.c_eq (GIns.mk 4 (bs []) c221_.gNum 0)) (cl_nil GIns.c)) .nil) ?_
              refine Wc.ret ?_
              obtain rfl := Option.some.inj h
              exact ⟨.inl rfl, by kernel_rfl, by kernel_rfl⟩
            · refine Wc.condF h246 (by kernel_rfl) ?_
              refine Wc.fix (st' := ⟨[(1, (.v (.slx), [(0, .ex 3 false (List.map cI.i64 g222_))])), (2, (.ptr 2 0, []))], [(2, .cells [.int .i64 c221_.gKind, .str c221_.gName, .int .i64 c221_.gNum, .sl (List.map GTerm.c c221_.gKids)] [])], []⟩) [] [1, 2] [2] [] (by kernel_rfl) ?_
              refine Wc.skip ?_
              refine Wc.seq ?_
              obtain ⟨h247, h⟩ := oguard h
              refine Wc.draw hmix [{}, {}, {}, { c := some (List.map GIns.c [GIns.mk 3 (bs []) c221_.gNum 0]) }, { tk := [1] }, {}, {}, { c := some (List.map cI.i64 [c221_.gNum]) }, { c := some (List.map cI.i64 (g222_ ++ [c221_.gNum])), tk := [41], md := 1 }, { tk := [40] }, { tk := [45] }] [] [4, 5] [] [] ⟨[(4, (.v (.sl (List.map GIns.c [GIns.mk 3 (bs []) c221_.gNum 0])), [(0, .app 158)])), (5, (.v (.slx), [(0, .ex 3 false (List.map cI.i64 (g222_ ++ [c221_.gNum])))]))], [], []⟩ _ (by kernel_rfl) (fun X => by kernel_rfl) (.cons (cl_cons (c := GIns.c) (x := GIns.mk 3 (bs []) c221_.gNum 0) (GIns.c_eq (GIns.mk 3 (bs []) c221_.gNum 0)) (cl_nil GIns.c)) (.cons (cl_cons (c := cI.i64) (x := c221_.gNum) rfl (cl_nil cI.i64)) (.cons (app_re2 cI.i64 g222_ [c221_.gNum]) (.cons (app_leaf (c := cI.i64) (ys := [c221_.gNum]) cI.i64_leaf) (.cons (app_obl2 (c := cI.i64) (xs := g222_) (ys := [c221_.gNum]) cI.i64_len h247) .nil))))) ?_
              refine Wc.ret ?_
              obtain rfl := Option.some.inj h
              exact ⟨.inl rfl, by kernel_rfl, by kernel_rfl⟩
          · refine Wc.condF h244 (by kernel_rfl) ?_
            refine Wc.fix (st' := ⟨[(1, (.v (.slx), [(0, .ex 3 false (List.map cI.i64 g222_))])), (2, (.ptr 2 0, []))], [(2, .cells [.int .i64 c221_.gKind, .str c221_.gName, .int .i64 c221_.gNum, .sl (List.map GTerm.c c221_.gKids)] [])], []⟩) [] [1, 2] [2] [] (by kernel_rfl) ?_
            refine Wc.skip ?_
            refine Wc.seq ?_
            refine Wc.region [{}, {}, {}, {}, { v := some (.int .i64 (c221_.gKids.length : Int)) }, {}, { c := some (List.map GIns.c [GIns.mk 5 c221_.gName 0 (c221_.gKids.length : Int)]) }, { tk := [52] }] [] [1, 2, 6] [2] [] ⟨[(1, (.v (.slx), [(0, .ex 3 false (List.map cI.i64 g222_))])), (2, (.ptr 2 0, [])), (6, (.v (.sl (List.map GIns.c [GIns.mk 5 c221_.gName 0 (c221_.gKids.length : Int)])), [(0, .app 158)]))], [(2, .cells [.int .i64 c221_.gKind, .str c221_.gName, .int .i64 c221_.gNum, .sl (List.map GTerm.c c221_.gKids)] [])], []⟩ _ (by kernel_rfl) (.cons (len_obl GTerm.c c221_.gKids) (.cons (cl_cons (c := GIns.c) (x := GIns.mk 5 c221_.gName 0 (c221_.gKids.length : Int)) (GIns.c_eq (GIns.mk 5 c221_.gName 0 (c221_.gKids.length : Int))) (cl_nil GIns.c)) .nil)) ?_
            refine Wc.seq ?_
            refine Wc.seq ?_
            refine Wc.region [{}, {}, { v := some (.int .i64 (c221_.gKids.length : Int)) }] [] [1, 6, 54, 55, 56] [] [] ⟨[(1, (.v (.slx), [(0, .ex 3 false (List.map cI.i64 g222_))])), (6, (.v (.sl (List.map GIns.c [GIns.mk 5 c221_.gName 0 (c221_.gKids.length : Int)])), [(0, .app 158)])), (54, (.v (.sl (List.map GTerm.c c221_.gKids)), [])), (55, (.v (.int .i64 (c221_.gKids.length : Int)), [])), (56, (.v (.int .i64 0), []))], [], []⟩ _ (by kernel_rfl) (.cons (len_obl GTerm.c c221_.gKids) .nil) ?_
            obtain ⟨out1, h248, h⟩ := obind h
            refine Wc.lastJ (fun st => ∃ (g227_ : List Int) (i228_ : List GIns), out1 = .done (g227_, i228_) ∧ st = ⟨[(1, (.v (.slx), [(0, .ex 3 false (List.map cI.i64 g227_))])), (6, (.v (.sl (List.map GIns.c i228_)), [(0, .app 158)]))], [], []⟩) ?_ ?_
            · refine Wc.block ?_
              refine Wc.loop (fun m st => ∃ (g224_ : List Int) (i225_ : List GIns) (b226_ : Int), st = ⟨[(1, (.v (.slx), [(0, .ex 3 false (List.map cI.i64 g224_))])), (6, (.v (.sl (List.map GIns.c i225_)), [(0, .app 158)])), (54, (.v (.sl (List.map GTerm.c c221_.gKids)), [])), (55, (.v (.int .i64 (c221_.gKids.length : Int)), [])), (56, (.v (.int .i64 b226_), []))], [], []⟩ ∧ pimpl_wordsOf_L1 k (pimpl_wordsOf k) c221_ m g224_ i225_ b226_ = some out1) ?_ k ⟨_, _, _, rfl, h248⟩
              rintro m st ⟨g224_, i225_, b226_, rfl, h248⟩
              cases m with
              | zero => exact (onone h248).elim
              | succ m =>
                refine Wc.seq ?_
                refine Wc.region [] [] [1, 6, 54, 55, 56, 57] [] [] ⟨[(1, (.v (.slx), [(0, .ex 3 false (List.map cI.i64 g224_))])), (6, (.v (.sl (List.map GIns.c i225_)), [(0, .app 158)])), (54, (.v (.sl (List.map GTerm.c c221_.gKids)), [])), (55, (.v (.int .i64 (c221_.gKids.length : Int)), [])), (56, (.v (.int .i64 b226_), [])), (57, (.v (.bool (decide (b226_ < (c221_.gKids.length : Int)))), []))], [], []⟩ _ (by kernel_rfl) .nil ?_
                refine Wc.seq ?_
                rcases oif h248 with ⟨h249, h248⟩ | ⟨h249, h248⟩
                · refine Wc.condT h249 (by kernel_rfl) ?_
                  refine Wc.fix (st' := ⟨[(1, (.v (.slx), [(0, .ex 3 false (List.map cI.i64 g224_))])), (6, (.v (.sl (List.map GIns.c i225_)), [(0, .app 158)])), (54, (.v (.sl (List.map GTerm.c c221_.gKids)), [])), (55, (.v (.int .i64 (c221_.gKids.length : Int)), [])), (56, (.v (.int .i64 b226_), []))], [], []⟩) [] [1, 6, 54, 55, 56] [] [] (by kernel_rfl) ?_
                  refine Wc.skip ?_
                  refine Wc.seq ?_
                  refine Wc.block ?_
                  refine Wc.seq ?_
                  obtain ⟨c229_, h250, h248⟩ := obind h248
                  refine Wc.region [{ v := some (.vptr [.int .i64 c229_.gKind, .str c229_.gName, .int .i64 c229_.gNum, .sl (List.map GTerm.c c229_.gKids)]) }] [] [1, 6, 8, 54, 55, 56] [8] [] ⟨[(1, (.v (.slx), [(0, .ex 3 false (List.map cI.i64 g224_))])), (6, (.v (.sl (List.map GIns.c i225_)), [(0, .app 158)])), (8, (.ptr 8 0, [])), (54, (.v (.sl (List.map GTerm.c c221_.gKids)), [])), (55, (.v (.int .i64 (c221_.gKids.length : Int)), [])), (56, (.v (.int .i64 b226_), []))], [(8, .cells [.int .i64 c229_.gKind, .str c229_.gName, .int .i64 c229_.gNum, .sl (List.map GTerm.c c229_.gKids)] [])], []⟩ _ (by kernel_rfl) (.cons (at_obl (c := GTerm.c) (GTerm.c_eq c229_) GTerm.c_len h250) (.cons (len_ok 4 [.int .i64 c229_.gKind, .str c229_.gName, .int .i64 c229_.gNum, .sl (List.map GTerm.c c229_.gKids)]) .nil)) ?_
                  refine Wc.seq ?_
                  refine Wc.region [] [] [1, 6, 8, 54, 55, 56] [8] [] ⟨[(1, (.v (.slx), [(0, .ex 3 false (List.map cI.i64 g224_))])), (6, (.v (.sl (List.map GIns.c i225_)), [(0, .app 158)])), (8, (.ptr 8 0, [])), (54, (.v (.sl (List.map GTerm.c c221_.gKids)), [])), (55, (.v (.int .i64 (c221_.gKids.length : Int)), [])), (56, (.v (.int .i64 b226_), []))], [(8, .cells [.int .i64 c229_.gKind, .str c229_.gName, .int .i64 c229_.gNum, .sl (List.map GTerm.c c229_.gKids)] [])], []⟩ _ (by kernel_rfl) .nil ?_
                  refine Wc.seq ?_
                  obtain ⟨j230_, h251, h248⟩ := obind h248
                  refine Wc.region [{}, { tk := [1] }, { tk := [62], r := some (.v (.tup [.sl (List.map GIns.c j230_.1), .slx]) [(0, .app 158), (1, .ex 3 false (List.map cI.i64 j230_.2))]) }, { tk := [63] }, { tk := [60] }, { tk := [60] }, { tk := [64] }, { tk := [65] }] [] [1, 6, 9, 54, 55, 56] [] [] ⟨[(1, (.v (.slx), [(0, .ex 3 false (List.map cI.i64 j230_.2))])), (6, (.v (.sl (List.map GIns.c i225_)), [(0, .app 158)])), (9, (.v (.sl (List.map GIns.c j230_.1)), [(0, .app 158)])), (54, (.v (.sl (List.map GTerm.c c221_.gKids)), [])), (55, (.v (.int .i64 (c221_.gKids.length : Int)), [])), (56, (.v (.int .i64 b226_), []))], [], []⟩ _ (by kernel_rfl) (.cons (ih_pimpl_wordsOf h251) .nil) ?_
                  obtain ⟨h252, h248⟩ := oguard h248
                  refine Wc.region [{ tk := [6] }, { tk := [9] }, { c := some (List.map GIns.c (i225_ ++ j230_.1)), tk := [66] }, { tk := [68] }] [] [1, 6, 54, 55, 56] [] [] ⟨[(1, (.v (.slx), [(0, .ex 3 false (List.map cI.i64 j230_.2))])), (6, (.v (.sl (List.map GIns.c (i225_ ++ j230_.1))), [(0, .app 158)])), (54, (.v (.sl (List.map GTerm.c c221_.gKids)), [])), (55, (.v (.int .i64 (c221_.gKids.length : Int)), [])), (56, (.v (.int .i64 b226_), []))], [], []⟩ _ (by kernel_rfl) (.cons (app_re2 GIns.c i225_ j230_.1) (.cons (app_leaf (c := GIns.c) (ys := j230_.1) GIns.c_leaf) (.cons (app_obl2 (c := GIns.c) (xs := i225_) (ys := j230_.1) GIns.c_len h252) .nil))) ?_
                  refine Wc.region [] [] [1, 6, 54, 55, 56] [] [] ⟨[(1, (.v (.slx), [(0, .ex 3 false (List.map cI.i64 j230_.2))])), (6, (.v (.sl (List.map GIns.c (i225_ ++ j230_.1))), [(0, .app 158)])), (54, (.v (.sl (List.map GTerm.c c221_.gKids)), [])), (55, (.v (.int .i64 (c221_.gKids.length : Int)), [])), (56, (.v (.int .i64 (wr.i64 (b226_ + 1))), []))], [], []⟩ _ (by kernel_rfl) .nil ?_
                  exact ⟨_, Nat.lt_succ_self _, _, _, _, rfl, h248⟩
                · refine Wc.condF h249 (by kernel_rfl) ?_
                  refine Wc.fix (st' := ⟨[(1, (.v (.slx), [(0, .ex 3 false (List.map cI.i64 g224_))])), (6, (.v (.sl (List.map GIns.c i225_)), [(0, .app 158)]))], [], []⟩) [] [1, 6] [] [] (by kernel_rfl) ?_
                  refine Wc.exit ?_
                  obtain rfl := Option.some.inj h248
                  exact ⟨_, _, rfl, rfl⟩
            · rintro st ⟨g227_, i228_, rfl, rfl⟩
              refine Wc.seq ?_
              refine Wc.region [{ tk := [6] }, { tk := [1] }, { tk := [70] }, { tk := [71] }] [] [4, 5] [] [] ⟨[(4, (.v (.sl (List.map GIns.c i228_)), [(0, .app 158)])), (5, (.v (.slx), [(0, .ex 3 false (List.map cI.i64 g227_))]))], [], []⟩ _ (by kernel_rfl) .nil ?_
              refine Wc.ret ?_
              obtain rfl := Option.some.inj h
              exact ⟨.inl rfl, by kernel_rfl, by kernel_rfl⟩
theorem cimpl_wordsOf {k : Nat} {c221_ : GTerm} {g222_ : List Int} {r : (List GIns) × (List Int)} (h : pimpl_wordsOf k c221_ g222_ = some r) : FnO Try.prog 127 [.v (.agg [.int .i64 c221_.gKind, .str c221_.gName, .int .i64 c221_.gNum, .sl (List.map GTerm.c c221_.gKids)]) [], .v (.slx) [(0, .ex 3 false (List.map cI.i64 g222_))]] (.v (.tup [.sl (List.map GIns.c r.1), .slx]) [(0, .app 158), (1, .ex 3 false (List.map cI.i64 r.2))]) [] := (all_pimpl_wordsOf k) h

def pimpl_WordsOf_L1 (k : Nat) (g241_ : List Int) : Nat → (List Int) → Int → Option (Out ((List GIns) × (List Int)) (List Int))
  | 0, _, _ => none
  | m + 1, g242_, b243_ =>
    if (decide (b243_ < (g241_.length : Int))) = true then
      (at' g241_ b243_).bind fun b245_ =>
      (pslices_Contains___int_int_ k g242_ b245_).bind fun f246_ =>
      if (!f246_) = true then
        if g242_.length + [b245_].length ≤ 1073741824 then
          pimpl_WordsOf_L1 k g241_ m (g242_ ++ [b245_]) (wr.i64 (b243_ + 1))
        else none
      else
        pimpl_WordsOf_L1 k g241_ m g242_ (wr.i64 (b243_ + 1))
    else
      some (.done g242_)
/-- impl.WordsOf -/
def pimpl_WordsOf (k : Nat) (c240_ : GTerm) (g241_ : List Int) : Option ((List GIns) × (List Int)) :=
  (pimpl_WordsOf_L1 k g241_ k [] 0).bind fun out1 => match out1 with
  | .ret r => some r
  | .done g244_ =>
    (pimpl_TermOk k c240_).bind fun f247_ =>
    if (!f247_) = true then
      some ([], g244_)
    else
      (pimpl_wordsOf k c240_ g244_).bind fun j248_ =>
      some (j248_.1, j248_.2)
theorem cimpl_WordsOf {k : Nat} {c240_ : GTerm} {g241_ : List Int} {r : (List GIns) × (List Int)} (h : pimpl_WordsOf k c240_ g241_ = some r) : FnO Try.prog 82 [.v (.agg [.int .i64 c240_.gKind, .str c240_.gName, .int .i64 c240_.gNum, .sl (List.map GTerm.c c240_.gKids)]) [], .v (.sl (List.map cI.i64 g241_)) []] (.v (.tup [.sl (List.map GIns.c r.1), .sl (List.map cI.i64 r.2)]) [(0, .app 158)]) [] := by
  refine FnO.of Try.func82 (rfl : Try.f82.body = some _) (Nat.le_of_ble_eq_true (by kernel_rfl)) (Nat.le_of_ble_eq_true (by kernel_rfl)) ?_
  intro w0 X0 Fin pv0 pb
  unfold pimpl_WordsOf at h
  refine Wc.seq ?_
  refine Wc.region [] [] [1, 2] [2] [] ⟨[(1, (.v (.sl (List.map cI.i64 g241_)), [])), (2, (.ptr 2 0, []))], [(2, .cells [.int .i64 c240_.gKind, .str c240_.gName, .int .i64 c240_.gNum, .sl (List.map GTerm.c c240_.gKids)] [])], []⟩ _ (by kernel_rfl) .nil ?_
  refine Wc.seq ?_
  refine Wc.region [] [] [1, 2, 6] [2] [] ⟨[(1, (.v (.sl (List.map cI.i64 g241_)), [])), (2, (.ptr 2 0, [])), (6, (.v (.sl (List.map cI.i64 [])), [(0, .app 3)]))], [(2, .cells [.int .i64 c240_.gKind, .str c240_.gName, .int .i64 c240_.gNum, .sl (List.map GTerm.c c240_.gKids)] [])], []⟩ _ (by kernel_rfl) .nil ?_
  refine Wc.seq ?_
  refine Wc.seq ?_
  refine Wc.region [{}, { v := some (.int .i64 (g241_.length : Int)) }] [] [2, 6, 9, 10, 11] [2] [] ⟨[(2, (.ptr 2 0, [])), (6, (.v (.sl (List.map cI.i64 [])), [(0, .app 3)])), (9, (.v (.sl (List.map cI.i64 g241_)), [])), (10, (.v (.int .i64 (g241_.length : Int)), [])), (11, (.v (.int .i64 0), []))], [(2, .cells [.int .i64 c240_.gKind, .str c240_.gName, .int .i64 c240_.gNum, .sl (List.map GTerm.c c240_.gKids)] [])], []⟩ _ (by kernel_rfl) (.cons (len_obl cI.i64 g241_) .nil) ?_
  obtain ⟨out1, h262, h⟩ := obind h
  refine Wc.lastJ (fun st => ∃ (g244_ : List Int), out1 = .done g244_ ∧ st = ⟨[(2, (.ptr 2 0, [])), (6, (.v (.slx), [(0, .ex 3 false (List.map cI.i64 g244_))]))], [(2, .cells [.int .i64 c240_.gKind, .str c240_.gName, .int .i64 c240_.gNum, .sl (List.map GTerm.c c240_.gKids)] [])], []⟩) ?_ ?_
  · refine Wc.block ?_
    refine Wc.fix (st' := ⟨[(2, (.ptr 2 0, [])), (6, (.v (.slx), [(0, .ex 3 false (List.map cI.i64 []))])), (9, (.v (.sl (List.map cI.i64 g241_)), [])), (10, (.v (.int .i64 (g241_.length : Int)), [])), (11, (.v (.int .i64 0), []))], [(2, .cells [.int .i64 c240_.gKind, .str c240_.gName, .int .i64 c240_.gNum, .sl (List.map GTerm.c c240_.gKids)] [])], []⟩) [.ow (.t 6 0) false] [2, 6, 9, 10, 11] [2] [] (by kernel_rfl) ?_
    refine Wc.loop (fun m st => ∃ (g242_ : List Int) (b243_ : Int), st = ⟨[(2, (.ptr 2 0, [])), (6, (.v (.slx), [(0, .ex 3 false (List.map cI.i64 g242_))])), (9, (.v (.sl (List.map cI.i64 g241_)), [])), (10, (.v (.int .i64 (g241_.length : Int)), [])), (11, (.v (.int .i64 b243_), []))], [(2, .cells [.int .i64 c240_.gKind, .str c240_.gName, .int .i64 c240_.gNum, .sl (List.map GTerm.c c240_.gKids)] [])], []⟩ ∧ pimpl_WordsOf_L1 k g241_ m g242_ b243_ = some out1) ?_ k ⟨_, _, rfl, h262⟩
    rintro m st ⟨g242_, b243_, rfl, h262⟩
    cases m with
    | zero => exact (onone h262).elim
    | succ m =>
      refine Wc.seq ?_
      refine Wc.region [] [] [2, 6, 9, 10, 11, 12] [2] [] ⟨[(2, (.ptr 2 0, [])), (6, (.v (.slx), [(0, .ex 3 false (List.map cI.i64 g242_))])), (9, (.v (.sl (List.map cI.i64 g241_)), [])), (10, (.v (.int .i64 (g241_.length : Int)), [])), (11, (.v (.int .i64 b243_), [])), (12, (.v (.bool (decide (b243_ < (g241_.length : Int)))), []))], [(2, .cells [.int .i64 c240_.gKind, .str c240_.gName, .int .i64 c240_.gNum, .sl (List.map GTerm.c c240_.gKids)] [])], []⟩ _ (by kernel_rfl) .nil ?_
      refine Wc.seq ?_
      rcases oif h262 with ⟨h263, h262⟩ | ⟨h263, h262⟩
      · refine Wc.condT h263 (by kernel_rfl) ?_
        refine Wc.fix (st' := ⟨[(2, (.ptr 2 0, [])), (6, (.v (.slx), [(0, .ex 3 false (List.map cI.i64 g242_))])), (9, (.v (.sl (List.map cI.i64 g241_)), [])), (10, (.v (.int .i64 (g241_.length : Int)), [])), (11, (.v (.int .i64 b243_), []))], [(2, .cells [.int .i64 c240_.gKind, .str c240_.gName, .int .i64 c240_.gNum, .sl (List.map GTerm.c c240_.gKids)] [])], []⟩) [] [2, 6, 9, 10, 11] [2] [] (by kernel_rfl) ?_
        refine Wc.skip ?_
        refine Wc.seq ?_
        refine Wc.block ?_
        refine Wc.seq ?_
        obtain ⟨b245_, h264, h262⟩ := obind h262
        refine Wc.region [{ v := some (.vptr [.int .i64 b245_]) }] [] [2, 6, 8, 9, 10, 11] [2] [] ⟨[(2, (.ptr 2 0, [])), (6, (.v (.slx), [(0, .ex 3 false (List.map cI.i64 g242_))])), (8, (.v (.int .i64 b245_), [])), (9, (.v (.sl (List.map cI.i64 g241_)), [])), (10, (.v (.int .i64 (g241_.length : Int)), [])), (11, (.v (.int .i64 b243_), []))], [(2, .cells [.int .i64 c240_.gKind, .str c240_.gName, .int .i64 c240_.gNum, .sl (List.map GTerm.c c240_.gKids)] [])], []⟩ _ (by kernel_rfl) (.cons (at_obl (c := cI.i64) rfl cI.i64_len h264) (.cons (len_ok 1 [.int .i64 b245_]) .nil)) ?_
        refine Wc.seq ?_
        obtain ⟨f246_, h265, h262⟩ := obind h262
        refine Wc.region [{}, {}, { r := some (.v (.bool f246_) []) }] [] [2, 6, 8, 9, 10, 11, 18] [2] [] ⟨[(2, (.ptr 2 0, [])), (6, (.v (.slx), [(0, .ex 3 false (List.map cI.i64 g242_))])), (8, (.v (.int .i64 b245_), [])), (9, (.v (.sl (List.map cI.i64 g241_)), [])), (10, (.v (.int .i64 (g241_.length : Int)), [])), (11, (.v (.int .i64 b243_), [])), (18, (.v (.bool (!f246_)), []))], [(2, .cells [.int .i64 c240_.gKind, .str c240_.gName, .int .i64 c240_.gNum, .sl (List.map GTerm.c c240_.gKids)] [])], []⟩ _ (by kernel_rfl) (.cons (cslices_Contains___int_int_ h265) .nil) ?_
        rcases oif h262 with ⟨h266, h262⟩ | ⟨h266, h262⟩
        · refine Wc.condT h266 (by kernel_rfl) ?_
          obtain ⟨h267, h262⟩ := oguard h262
          refine Wc.region [{ tk := [6] }, {}, { c := some (List.map cI.i64 [b245_]) }, { c := some (List.map cI.i64 (g242_ ++ [b245_])), tk := [19], md := 1 }, { tk := [22] }] [] [2, 6, 9, 10, 11] [2] [] ⟨[(2, (.ptr 2 0, [])), (6, (.v (.slx), [(0, .ex 3 false (List.map cI.i64 (g242_ ++ [b245_])))])), (9, (.v (.sl (List.map cI.i64 g241_)), [])), (10, (.v (.int .i64 (g241_.length : Int)), [])), (11, (.v (.int .i64 b243_), []))], [(2, .cells [.int .i64 c240_.gKind, .str c240_.gName, .int .i64 c240_.gNum, .sl (List.map GTerm.c c240_.gKids)] [])], []⟩ _ (by kernel_rfl) (.cons (cl_cons (c := cI.i64) (x := b245_) rfl (cl_nil cI.i64)) (.cons (app_re2 cI.i64 g242_ [b245_]) (.cons (app_leaf (c := cI.i64) (ys := [b245_]) cI.i64_leaf) (.cons (app_obl2 (c := cI.i64) (xs := g242_) (ys := [b245_]) cI.i64_len h267) .nil)))) ?_
          refine Wc.region [] [] [2, 6, 9, 10, 11] [2] [] ⟨[(2, (.ptr 2 0, [])), (6, (.v (.slx), [(0, .ex 3 false (List.map cI.i64 (g242_ ++ [b245_])))])), (9, (.v (.sl (List.map cI.i64 g241_)), [])), (10, (.v (.int .i64 (g241_.length : Int)), [])), (11, (.v (.int .i64 (wr.i64 (b243_ + 1))), []))], [(2, .cells [.int .i64 c240_.gKind, .str c240_.gName, .int .i64 c240_.gNum, .sl (List.map GTerm.c c240_.gKids)] [])], []⟩ _ (by kernel_rfl) .nil ?_
          exact ⟨_, Nat.lt_succ_self _, _, _, rfl, h262⟩
        · refine Wc.condF h266 (by kernel_rfl) ?_
          refine Wc.fix (st' := ⟨[(2, (.ptr 2 0, [])), (6, (.v (.slx), [(0, .ex 3 false (List.map cI.i64 g242_))])), (9, (.v (.sl (List.map cI.i64 g241_)), [])), (10, (.v (.int .i64 (g241_.length : Int)), [])), (11, (.v (.int .i64 b243_), []))], [(2, .cells [.int .i64 c240_.gKind, .str c240_.gName, .int .i64 c240_.gNum, .sl (List.map GTerm.c c240_.gKids)] [])], []⟩) [] [2, 6, 9, 10, 11] [2] [] (by kernel_rfl) ?_
          refine Wc.skip ?_
          refine Wc.region [] [] [2, 6, 9, 10, 11] [2] [] ⟨[(2, (.ptr 2 0, [])), (6, (.v (.slx), [(0, .ex 3 false (List.map cI.i64 g242_))])), (9, (.v (.sl (List.map cI.i64 g241_)), [])), (10, (.v (.int .i64 (g241_.length : Int)), [])), (11, (.v (.int .i64 (wr.i64 (b243_ + 1))), []))], [(2, .cells [.int .i64 c240_.gKind, .str c240_.gName, .int .i64 c240_.gNum, .sl (List.map GTerm.c c240_.gKids)] [])], []⟩ _ (by kernel_rfl) .nil ?_
          exact ⟨_, Nat.lt_succ_self _, _, _, rfl, h262⟩
      · refine Wc.condF h263 (by kernel_rfl) ?_
        refine Wc.fix (st' := ⟨[(2, (.ptr 2 0, [])), (6, (.v (.slx), [(0, .ex 3 false (List.map cI.i64 g242_))]))], [(2, .cells [.int .i64 c240_.gKind, .str c240_.gName, .int .i64 c240_.gNum, .sl (List.map GTerm.c c240_.gKids)] [])], []⟩) [] [2, 6] [2] [] (by kernel_rfl) ?_
        refine Wc.exit ?_
        obtain rfl := Option.some.inj h262
        exact ⟨_, rfl, rfl⟩
  · rintro st ⟨g244_, rfl, rfl⟩
    refine Wc.seq ?_
    refine Wc.seq ?_
    obtain ⟨f247_, h268, h⟩ := obind h
    refine Wc.region [{}, { r := some (.v (.bool f247_) []) }] [] [2, 6, 26] [2] [] ⟨[(2, (.ptr 2 0, [])), (6, (.v (.slx), [(0, .ex 3 false (List.map cI.i64 g244_))])), (26, (.v (.bool (!f247_)), []))], [(2, .cells [.int .i64 c240_.gKind, .str c240_.gName, .int .i64 c240_.gNum, .sl (List.map GTerm.c c240_.gKids)] [])], []⟩ _ (by kernel_rfl) (.cons (cimpl_TermOk h268) .nil) ?_
    rcases oif h with ⟨h269, h⟩ | ⟨h269, h⟩
    · refine Wc.condT h269 (by kernel_rfl) ?_
      refine Wc.seq ?_
      refine Wc.region [{ tk := [6] }, {}, { tk := [27] }] [] [4, 5] [] [] ⟨[(4, (.v (.sl (List.map GIns.c [])), [(0, .app 158)])), (5, (.v (.slx), [(0, .ex 3 false (List.map cI.i64 g244_))]))], [], []⟩ _ (by kernel_rfl) .nil ?_
      refine Wc.fix (st' := ⟨[(4, (.v (.sl (List.map GIns.c [])), [(0, .app 158)])), (5, (.v (.sl (List.map cI.i64 g244_)), []))], [], []⟩) [.sh (.t 5 0)] [4, 5] [] [] (by kernel_rfl) ?_
      refine Wc.ret ?_
      obtain rfl := Option.some.inj h
      exact ⟨.inl rfl, by kernel_rfl, by kernel_rfl⟩
    · refine Wc.condF h269 (by kernel_rfl) ?_
      refine Wc.fix (st' := ⟨[(2, (.ptr 2 0, [])), (6, (.v (.slx), [(0, .ex 3 false (List.map cI.i64 g244_))]))], [(2, .cells [.int .i64 c240_.gKind, .str c240_.gName, .int .i64 c240_.gNum, .sl (List.map GTerm.c c240_.gKids)] [])], []⟩) [] [2, 6] [2] [] (by kernel_rfl) ?_
      refine Wc.skip ?_
      refine Wc.seq ?_
      obtain ⟨j248_, h270, h⟩ := obind h
      refine Wc.region [{}, { tk := [6] }, { tk := [29], r := some (.v (.tup [.sl (List.map GIns.c j248_.1), .slx]) [(0, .app 158), (1, .ex 3 false (List.map cI.i64 j248_.2))]) }, { tk := [30] }, { tk := [30] }, { tk := [31] }, { tk := [32] }] [] [4, 5] [] [] ⟨[(4, (.v (.sl (List.map GIns.c j248_.1)), [(0, .app 158)])), (5, (.v (.slx), [(0, .ex 3 false (List.map cI.i64 j248_.2))]))], [], []⟩ _ (by kernel_rfl) (.cons (cimpl_wordsOf h270) .nil) ?_
      refine Wc.fix (st' := ⟨[(4, (.v (.sl (List.map GIns.c j248_.1)), [(0, .app 158)])), (5, (.v (.sl (List.map cI.i64 j248_.2)), []))], [], []⟩) [.sh (.t 5 0)] [4, 5] [] [] (by kernel_rfl) ?_
      refine Wc.ret ?_
      obtain rfl := Option.some.inj h
      exact ⟨.inl rfl, by kernel_rfl, by kernel_rfl⟩

def pimpl_varsUpTo_L1 (k : Nat) (rimpl_varsUpTo : (List GTerm) → Option Int) (a249_ : List GTerm) : Nat → Int → Int → Option (Out Int Int)
  | 0, _, _ => none
  | m + 1, b250_, b251_ =>
    if (decide (b251_ < (a249_.length : Int))) = true then
      (at' a249_ b251_).bind fun c253_ =>
      if (c253_.gKind == 1) = true then
        (rimpl_varsUpTo c253_.gKids).bind fun b254_ =>
        pimpl_varsUpTo_L1 k rimpl_varsUpTo a249_ m (if b254_ > (if (wr.i64 (c253_.gNum + 1)) > b250_ then (wr.i64 (c253_.gNum + 1)) else b250_) then b254_ else (if (wr.i64 (c253_.gNum + 1)) > b250_ then (wr.i64 (c253_.gNum + 1)) else b250_)) (wr.i64 (b251_ + 1))
      else
        (rimpl_varsUpTo c253_.gKids).bind fun b255_ =>
        pimpl_varsUpTo_L1 k rimpl_varsUpTo a249_ m (if b255_ > b250_ then b255_ else b250_) (wr.i64 (b251_ + 1))
    else
      some (.done b250_)
mutual
/-- impl.varsUpTo -/
def pimpl_varsUpTo : Nat → (List GTerm) → Option Int
  | 0, _ => none
  | k + 1, a249_ =>
    (pimpl_varsUpTo_L1 k (pimpl_varsUpTo k) a249_ k 0 0).bind fun out1 => match out1 with
    | .ret r => some r
    | .done b252_ =>
      some b252_
end
theorem all_pimpl_varsUpTo : ∀ k : Nat, (∀ {a249_ : List GTerm} {r : Int}, pimpl_varsUpTo k a249_ = some r → FnO Try.prog 83 [.v (.sl (List.map GTerm.c a249_)) []] (.v (.int .i64 r) []) []) := by
  intro k
  induction k with
  | zero =>
    · intro a249_ r h
      exact (onone (by rw [pimpl_varsUpTo] at h; exact h)).elim
  | succ k ih =>
    have ih_pimpl_varsUpTo := @ih
    · intro a249_ r h
      rw [pimpl_varsUpTo] at h
      refine FnO.of Try.func83 (rfl : Try.f83.body = some _) (Nat.le_of_ble_eq_true (by kernel_rfl)) (Nat.le_of_ble_eq_true (by kernel_rfl)) ?_
      intro w0 X0 Fin pv0 pb
      refine Wc.seq ?_
      refine Wc.region [] [] [0] [] [] ⟨[(0, (.v (.sl (List.map GTerm.c a249_)), []))], [], []⟩ _ (by kernel_rfl) .nil ?_
      refine Wc.seq ?_
      refine Wc.region [] [] [0, 3] [] [] ⟨[(0, (.v (.sl (List.map GTerm.c a249_)), [])), (3, (.v (.int .i64 0), []))], [], []⟩ _ (by kernel_rfl) .nil ?_
      refine Wc.seq ?_
      refine Wc.seq ?_
      refine Wc.region [{}, { v := some (.int .i64 (a249_.length : Int)) }] [] [3, 6, 7, 8] [] [] ⟨[(3, (.v (.int .i64 0), [])), (6, (.v (.sl (List.map GTerm.c a249_)), [])), (7, (.v (.int .i64 (a249_.length : Int)), [])), (8, (.v (.int .i64 0), []))], [], []⟩ _ (by kernel_rfl) (.cons (len_obl GTerm.c a249_) .nil) ?_
      obtain ⟨out1, h271, h⟩ := obind h
      refine Wc.lastJ (fun st => ∃ (b252_ : Int), out1 = .done b252_ ∧ st = ⟨[(3, (.v (.int .i64 b252_), []))], [], []⟩) ?_ ?_
      · refine Wc.block ?_
        refine Wc.loop (fun m st => ∃ (b250_ : Int) (b251_ : Int), st = ⟨[(3, (.v (.int .i64 b250_), [])), (6, (.v (.sl (List.map GTerm.c a249_)), [])), (7, (.v (.int .i64 (a249_.length : Int)), [])), (8, (.v (.int .i64 b251_), []))], [], []⟩ ∧ pimpl_varsUpTo_L1 k (pimpl_varsUpTo k) a249_ m b250_ b251_ = some out1) ?_ k ⟨_, _, rfl, h271⟩
        rintro m st ⟨b250_, b251_, rfl, h271⟩
        cases m with
        | zero => exact (onone h271).elim
        | succ m =>
          refine Wc.seq ?_
          refine Wc.region [] [] [3, 6, 7, 8, 9] [] [] ⟨[(3, (.v (.int .i64 b250_), [])), (6, (.v (.sl (List.map GTerm.c a249_)), [])), (7, (.v (.int .i64 (a249_.length : Int)), [])), (8, (.v (.int .i64 b251_), [])), (9, (.v (.bool (decide (b251_ < (a249_.length : Int)))), []))], [], []⟩ _ (by kernel_rfl) .nil ?_
          refine Wc.seq ?_
          rcases oif h271 with ⟨h272, h271⟩ | ⟨h272, h271⟩
          · refine Wc.condT h272 (by kernel_rfl) ?_
            refine Wc.fix (st' := ⟨[(3, (.v (.int .i64 b250_), [])), (6, (.v (.sl (List.map GTerm.c a249_)), [])), (7, (.v (.int .i64 (a249_.length : Int)), [])), (8, (.v (.int .i64 b251_), []))], [], []⟩) [] [3, 6, 7, 8] [] [] (by kernel_rfl) ?_
            refine Wc.skip ?_
            refine Wc.seq ?_
            refine Wc.block ?_
            refine Wc.seq ?_
            obtain ⟨c253_, h273, h271⟩ := obind h271
            refine Wc.region [{ v := some (.vptr [.int .i64 c253_.gKind, .str c253_.gName, .int .i64 c253_.gNum, .sl (List.map GTerm.c c253_.gKids)]) }] [] [3, 5, 6, 7, 8] [5] [] ⟨[(3, (.v (.int .i64 b250_), [])), (5, (.ptr 5 0, [])), (6, (.v (.sl (List.map GTerm.c a249_)), [])), (7, (.v (.int .i64 (a249_.length : Int)), [])), (8, (.v (.int .i64 b251_), []))], [(5, .cells [.int .i64 c253_.gKind, .str c253_.gName, .int .i64 c253_.gNum, .sl (List.map GTerm.c c253_.gKids)] [])], []⟩ _ (by kernel_rfl) (.cons (at_obl (c := GTerm.c) (GTerm.c_eq c253_) GTerm.c_len h273) (.cons (len_ok 4 [.int .i64 c253_.gKind, .str c253_.gName, .int .i64 c253_.gNum, .sl (List.map GTerm.c c253_.gKids)]) .nil)) ?_
            refine Wc.seq ?_
            refine Wc.seq ?_
            refine Wc.region [] [] [3, 5, 6, 7, 8, 14] [5] [] ⟨[(3, (.v (.int .i64 b250_), [])), (5, (.ptr 5 0, [])), (6, (.v (.sl (List.map GTerm.c a249_)), [])), (7, (.v (.int .i64 (a249_.length : Int)), [])), (8, (.v (.int .i64 b251_), [])), (14, (.v (.bool (c253_.gKind == 1)), []))], [(5, .cells [.int .i64 c253_.gKind, .str c253_.gName, .int .i64 c253_.gNum, .sl (List.map GTerm.c c253_.gKids)] [])], []⟩ _ (by kernel_rfl) .nil ?_
            rcases oif h271 with ⟨h274, h271⟩ | ⟨h274, h271⟩
            · refine Wc.condT h274 (by kernel_rfl) ?_
              refine Wc.region [] [] [3, 5, 6, 7, 8] [5] [] ⟨[(3, (.v (.int .i64 (if (wr.i64 (c253_.gNum + 1)) > b250_ then (wr.i64 (c253_.gNum + 1)) else b250_)), [])), (5, (.ptr 5 0, [])), (6, (.v (.sl (List.map GTerm.c a249_)), [])), (7, (.v (.int .i64 (a249_.length : Int)), [])), (8, (.v (.int .i64 b251_), []))], [(5, .cells [.int .i64 c253_.gKind, .str c253_.gName, .int .i64 c253_.gNum, .sl (List.map GTerm.c c253_.gKids)] [])], []⟩ _ (by kernel_rfl) .nil ?_
              obtain ⟨b254_, h275, h271⟩ := obind h271
              refine Wc.region [{}, {}, {}, { r := some (.v (.int .i64 b254_) []) }] [] [3, 6, 7, 8] [] [] ⟨[(3, (.v (.int .i64 (if b254_ > (if (wr.i64 (c253_.gNum + 1)) > b250_ then (wr.i64 (c253_.gNum + 1)) else b250_) then b254_ else (if (wr.i64 (c253_.gNum + 1)) > b250_ then (wr.i64 (c253_.gNum + 1)) else b250_))), [])), (6, (.v (.sl (List.map GTerm.c a249_)), [])), (7, (.v (.int .i64 (a249_.length : Int)), [])), (8, (.v (.int .i64 b251_), []))], [], []⟩ _ (by kernel_rfl) (.cons (ih_pimpl_varsUpTo h275) .nil) ?_
              refine Wc.region [] [] [3, 6, 7, 8] [] [] ⟨[(3, (.v (.int .i64 (if b254_ > (if (wr.i64 (c253_.gNum + 1)) > b250_ then (wr.i64 (c253_.gNum + 1)) else b250_) then b254_ else (if (wr.i64 (c253_.gNum + 1)) > b250_ then (wr.i64 (c253_.gNum + 1)) else b250_))), [])), (6, (.v (.sl (List.map GTerm.c a249_)), [])), (7, (.v (.int .i64 (a249_.length : Int)), [])), (8, (.v (.int .i64 (wr.i64 (b251_ + 1))), []))], [], []⟩ _ (by kernel_rfl) .nil ?_
              exact ⟨_, Nat.lt_succ_self _, _, _, rfl, h271⟩
            · refine Wc.condF h274 (by kernel_rfl) ?_
              refine Wc.fix (st' := ⟨[(3, (.v (.int .i64 b250_), [])), (5, (.ptr 5 0, [])), (6, (.v (.sl (List.map GTerm.c a249_)), [])), (7, (.v (.int .i64 (a249_.length : Int)), [])), (8, (.v (.int .i64 b251_), []))], [(5, .cells [.int .i64 c253_.gKind, .str c253_.gName, .int .i64 c253_.gNum, .sl (List.map GTerm.c c253_.gKids)] [])], []⟩) [] [3, 5, 6, 7, 8] [5] [] (by kernel_rfl) ?_
              refine Wc.skip ?_
              obtain ⟨b255_, h276, h271⟩ := obind h271
              refine Wc.region [{}, {}, {}, { r := some (.v (.int .i64 b255_) []) }] [] [3, 6, 7, 8] [] [] ⟨[(3, (.v (.int .i64 (if b255_ > b250_ then b255_ else b250_)), [])), (6, (.v (.sl (List.map GTerm.c a249_)), [])), (7, (.v (.int .i64 (a249_.length : Int)), [])), (8, (.v (.int .i64 b251_), []))], [], []⟩ _ (by kernel_rfl) (.cons (ih_pimpl_varsUpTo h276) .nil) ?_
              refine Wc.region [] [] [3, 6, 7, 8] [] [] ⟨[(3, (.v (.int .i64 (if b255_ > b250_ then b255_ else b250_)), [])), (6, (.v (.sl (List.map GTerm.c a249_)), [])), (7, (.v (.int .i64 (a249_.length : Int)), [])), (8, (.v (.int .i64 (wr.i64 (b251_ + 1))), []))], [], []⟩ _ (by kernel_rfl) .nil ?_
              exact ⟨_, Nat.lt_succ_self _, _, _, rfl, h271⟩
          · refine Wc.condF h272 (by kernel_rfl) ?_
            refine Wc.fix (st' := ⟨[(3, (.v (.int .i64 b250_), []))], [], []⟩) [] [3] [] [] (by kernel_rfl) ?_
            refine Wc.exit ?_
            obtain rfl := Option.some.inj h271
            exact ⟨_, rfl, rfl⟩
      · rintro st ⟨b252_, rfl, rfl⟩
        refine Wc.seq ?_
        refine Wc.region [] [] [2] [] [] ⟨[(2, (.v (.int .i64 b252_), []))], [], []⟩ _ (by kernel_rfl) .nil ?_
        refine Wc.ret ?_
        obtain rfl := Option.some.inj h
        exact ⟨.inl rfl, by kernel_rfl, by kernel_rfl⟩
theorem cimpl_varsUpTo {k : Nat} {a249_ : List GTerm} {r : Int} (h : pimpl_varsUpTo k a249_ = some r) : FnO Try.prog 83 [.v (.sl (List.map GTerm.c a249_)) []] (.v (.int .i64 r) []) [] := (all_pimpl_varsUpTo k) h
end Go.Proofs.Ytgfpmdaihkdhkaa

/- What the functions do, part 1. -/
import Derived.Test.YtkmifafdenblcaaTy
set_option linter.unusedVariables false
set_option linter.unusedSimpArgs false
namespace Go.Proofs.Ytkmifafdenblcaa
open Go.RowKit Go.Bv
def plaws_szTermS_L1 (k : Nat) (rlaws_szTerm : GTerm → Int → Option Int) (rlaws_szTermS : (List GTerm) → Int → Option Int) (a4_ : List GTerm) : Nat → Int → Int → Option (Out Int Int)
  | 0, _, _ => none
  | m + 1, b6_, b7_ =>
    if (decide (b7_ < (a4_.length : Int))) = true then
      (at' a4_ b7_).bind fun c9_ =>
      (rlaws_szTerm c9_ b6_).bind fun b10_ =>
      if (decide (b10_ < 0)) = true then
        some (.ret (-1))
      else
        plaws_szTermS_L1 k rlaws_szTerm rlaws_szTermS a4_ m b10_ (wr.i64 (b7_ + 1))
    else
      some (.done b6_)
mutual
/-- laws.szTerm -/
def plaws_szTerm : Nat → GTerm → Int → Option Int
  | 0, _, _ => none
  | k + 1, c1_, b2_ =>
    if (decide ((wr.i64 (b2_ - (c1_.gName.size : Int))) < 0)) = true then
      some (-1)
    else
      (plaws_szTermS k c1_.gKids (wr.i64 (b2_ - (c1_.gName.size : Int)))).bind fun b3_ =>
      if (decide (b3_ < 0)) = true then
        some (-1)
      else
        some b3_
/-- laws.szTermS -/
def plaws_szTermS : Nat → (List GTerm) → Int → Option Int
  | 0, _, _ => none
  | k + 1, a4_, b5_ =>
    if (decide ((wr.i64 (b5_ - (a4_.length : Int))) < 0)) = true then
      some (-1)
    else
      (plaws_szTermS_L1 k (plaws_szTerm k) (plaws_szTermS k) a4_ k (wr.i64 (b5_ - (a4_.length : Int))) 0).bind fun out1 => match out1 with
      | .ret r => some r
      | .done b8_ =>
        some b8_
end
theorem all_plaws_szTerm : ∀ k : Nat, (∀ {c1_ : GTerm} {b2_ : Int} {r : Int}, plaws_szTerm k c1_ b2_ = some r → FnO Try.prog 114 [.v (.agg [.int .i64 c1_.gKind, .str c1_.gName, .int .i64 c1_.gNum, .sl (List.map GTerm.c c1_.gKids)]) [], .v (.int .i64 b2_) []] (.v (.int .i64 r) []) []) ∧
    (∀ {a4_ : List GTerm} {b5_ : Int} {r : Int}, plaws_szTermS k a4_ b5_ = some r → FnO Try.prog 131 [.v (.sl (List.map GTerm.c a4_)) [], .v (.int .i64 b5_) []] (.v (.int .i64 r) []) []) := by
  intro k
  induction k with
  | zero =>
    refine ⟨?_, ?_⟩
    · intro c1_ b2_ r h
      exact (onone (by rw [plaws_szTerm] at h; exact h)).elim
    · intro a4_ b5_ r h
      exact (onone (by rw [plaws_szTermS] at h; exact h)).elim
  | succ k ih =>
    obtain ⟨ih_plaws_szTerm, ih_plaws_szTermS⟩ := ih
    refine ⟨?_, ?_⟩
    · intro c1_ b2_ r h
      rw [plaws_szTerm] at h
      refine FnO.of Try.func114 (rfl : Try.f114.body = some _) (Nat.le_of_ble_eq_true (by kernel_rfl)) (Nat.le_of_ble_eq_true (by kernel_rfl)) ?_
      intro w0 X0 Fin pv0 pb gt
      refine Wc.seq ?_
      refine Wc.region [] [] [1, 2] [2] [] ⟨[(1, (.v (.int .i64 b2_), [])), (2, (.ptr 2 0, []))], [(2, .cells [.int .i64 c1_.gKind, .str c1_.gName, .int .i64 c1_.gNum, .sl (List.map GTerm.c c1_.gKids)] [])], []⟩ _ (by kernel_rfl) .nil ?_
      refine Wc.seq ?_
      refine Wc.region [] [] [1, 2] [2] [] ⟨[(1, (.v (.int .i64 (wr.i64 (b2_ - (c1_.gName.size : Int)))), [])), (2, (.ptr 2 0, []))], [(2, .cells [.int .i64 c1_.gKind, .str c1_.gName, .int .i64 c1_.gNum, .sl (List.map GTerm.c c1_.gKids)] [])], []⟩ _ (by kernel_rfl) .nil ?_
      refine Wc.seq ?_
      refine Wc.seq ?_
      refine Wc.region [] [] [1, 2, 11] [2] [] ⟨[(1, (.v (.int .i64 (wr.i64 (b2_ - (c1_.gName.size : Int)))), [])), (2, (.ptr 2 0, [])), (11, (.v (.bool (decide ((wr.i64 (b2_ - (c1_.gName.size : Int))) < 0))), []))], [(2, .cells [.int .i64 c1_.gKind, .str c1_.gName, .int .i64 c1_.gNum, .sl (List.map GTerm.c c1_.gKids)] [])], []⟩ _ (by kernel_rfl) .nil ?_
      rcases oif h with ⟨h1, h⟩ | ⟨h1, h⟩
      · refine Wc.condT h1 (by kernel_rfl) ?_
        refine Wc.seq ?_
        refine Wc.region [] [] [4] [] [] ⟨[(4, (.v (.int .i64 (-1)), []))], [], []⟩ _ (by kernel_rfl) .nil ?_
        refine Wc.ret ?_
        obtain rfl := Option.some.inj h
        exact ⟨.inl rfl, by kernel_rfl, by kernel_rfl⟩
      · refine Wc.condF h1 (by kernel_rfl) ?_
        refine Wc.fix (st' := ⟨[(1, (.v (.int .i64 (wr.i64 (b2_ - (c1_.gName.size : Int)))), [])), (2, (.ptr 2 0, []))], [(2, .cells [.int .i64 c1_.gKind, .str c1_.gName, .int .i64 c1_.gNum, .sl (List.map GTerm.c c1_.gKids)] [])], []⟩) [] [1, 2] [2] [] (by kernel_rfl) ?_
        refine Wc.skip ?_
        refine Wc.seq ?_
        obtain ⟨b3_, h2, h⟩ := obind h
        refine Wc.region [{}, {}, {}, { r := some (.v (.int .i64 b3_) []) }] [] [1] [] [] ⟨[(1, (.v (.int .i64 b3_), []))], [], []⟩ _ (by kernel_rfl) (.cons (ih_plaws_szTermS h2) .nil) ?_
        refine Wc.seq ?_
        refine Wc.seq ?_
        refine Wc.region [] [] [1, 17] [] [] ⟨[(1, (.v (.int .i64 b3_), [])), (17, (.v (.bool (decide (b3_ < 0))), []))], [], []⟩ _ (by kernel_rfl) .nil ?_
        rcases oif h with ⟨h3, h⟩ | ⟨h3, h⟩
        · refine Wc.condT h3 (by kernel_rfl) ?_
          refine Wc.seq ?_
          refine Wc.region [] [] [4] [] [] ⟨[(4, (.v (.int .i64 (-1)), []))], [], []⟩ _ (by kernel_rfl) .nil ?_
          refine Wc.ret ?_
          obtain rfl := Option.some.inj h
          exact ⟨.inl rfl, by kernel_rfl, by kernel_rfl⟩
        · refine Wc.condF h3 (by kernel_rfl) ?_
          refine Wc.fix (st' := ⟨[(1, (.v (.int .i64 b3_), []))], [], []⟩) [] [1] [] [] (by kernel_rfl) ?_
          refine Wc.skip ?_
          refine Wc.seq ?_
          refine Wc.region [] [] [4] [] [] ⟨[(4, (.v (.int .i64 b3_), []))], [], []⟩ _ (by kernel_rfl) .nil ?_
          refine Wc.ret ?_
          obtain rfl := Option.some.inj h
          exact ⟨.inl rfl, by kernel_rfl, by kernel_rfl⟩
    · intro a4_ b5_ r h
      rw [plaws_szTermS] at h
      refine FnO.of Try.func131 (rfl : Try.f131.body = some _) (Nat.le_of_ble_eq_true (by kernel_rfl)) (Nat.le_of_ble_eq_true (by kernel_rfl)) ?_
      intro w0 X0 Fin pv0 pb gt
      refine Wc.seq ?_
      refine Wc.region [] [] [0, 1] [] [] ⟨[(0, (.v (.sl (List.map GTerm.c a4_)), [])), (1, (.v (.int .i64 b5_), []))], [], []⟩ _ (by kernel_rfl) .nil ?_
      refine Wc.seq ?_
      refine Wc.region [{}, {}, { v := some (.int .i64 (a4_.length : Int)) }] [] [0, 1] [] [] ⟨[(0, (.v (.sl (List.map GTerm.c a4_)), [])), (1, (.v (.int .i64 (wr.i64 (b5_ - (a4_.length : Int)))), []))], [], []⟩ _ (by kernel_rfl) (.cons (len_obl GTerm.c a4_) .nil) ?_
      refine Wc.seq ?_
      refine Wc.seq ?_
      refine Wc.region [] [] [0, 1, 11] [] [] ⟨[(0, (.v (.sl (List.map GTerm.c a4_)), [])), (1, (.v (.int .i64 (wr.i64 (b5_ - (a4_.length : Int)))), [])), (11, (.v (.bool (decide ((wr.i64 (b5_ - (a4_.length : Int))) < 0))), []))], [], []⟩ _ (by kernel_rfl) .nil ?_
      rcases oif h with ⟨h4, h⟩ | ⟨h4, h⟩
      · refine Wc.condT h4 (by kernel_rfl) ?_
        refine Wc.seq ?_
        refine Wc.region [] [] [4] [] [] ⟨[(4, (.v (.int .i64 (-1)), []))], [], []⟩ _ (by kernel_rfl) .nil ?_
        refine Wc.ret ?_
        obtain rfl := Option.some.inj h
        exact ⟨.inl rfl, by kernel_rfl, by kernel_rfl⟩
      · refine Wc.condF h4 (by kernel_rfl) ?_
        refine Wc.fix (st' := ⟨[(0, (.v (.sl (List.map GTerm.c a4_)), [])), (1, (.v (.int .i64 (wr.i64 (b5_ - (a4_.length : Int)))), []))], [], []⟩) [] [0, 1] [] [] (by kernel_rfl) ?_
        refine Wc.skip ?_
        refine Wc.seq ?_
        refine Wc.seq ?_
        refine Wc.region [] [] [0, 1, 5] [] [] ⟨[(0, (.v (.sl (List.map GTerm.c a4_)), [])), (1, (.v (.int .i64 (wr.i64 (b5_ - (a4_.length : Int)))), [])), (5, (.v (.int .i64 0), []))], [], []⟩ _ (by kernel_rfl) .nil ?_
        obtain ⟨out1, h5, h⟩ := obind h
        refine Wc.lastJ (fun st => ∃ (b8_ : Int), out1 = .done b8_ ∧ st = ⟨[(1, (.v (.int .i64 b8_), []))], [], []⟩) ?_ ?_
        · refine Wc.block ?_
          refine Wc.loop (fun m st => ∃ (b6_ : Int) (b7_ : Int), st = ⟨[(0, (.v (.sl (List.map GTerm.c a4_)), [])), (1, (.v (.int .i64 b6_), [])), (5, (.v (.int .i64 b7_), []))], [], []⟩ ∧ plaws_szTermS_L1 k (plaws_szTerm k) (plaws_szTermS k) a4_ m b6_ b7_ = some out1) ?_ k ⟨_, _, rfl, h5⟩
          rintro m st ⟨b6_, b7_, rfl, h5⟩
          cases m with
          | zero => exact (onone h5).elim
          | succ m =>
            refine Wc.seq ?_
            refine Wc.seq ?_
            refine Wc.region [{}, {}, { v := some (.int .i64 (a4_.length : Int)) }] [] [0, 1, 5, 15] [] [] ⟨[(0, (.v (.sl (List.map GTerm.c a4_)), [])), (1, (.v (.int .i64 b6_), [])), (5, (.v (.int .i64 b7_), [])), (15, (.v (.bool (decide (b7_ < (a4_.length : Int)))), []))], [], []⟩ _ (by kernel_rfl) (.cons (len_obl GTerm.c a4_) .nil) ?_
            rcases oif h5 with ⟨h6, h5⟩ | ⟨h6, h5⟩
            · refine Wc.condT h6 (by kernel_rfl) ?_
              refine Wc.fix (st' := ⟨[(0, (.v (.sl (List.map GTerm.c a4_)), [])), (1, (.v (.int .i64 b6_), [])), (5, (.v (.int .i64 b7_), []))], [], []⟩) [] [0, 1, 5] [] [] (by kernel_rfl) ?_
              refine Wc.skip ?_
              refine Wc.seq ?_
              refine Wc.block ?_
              refine Wc.seq ?_
              obtain ⟨c9_, h7, h5⟩ := obind h5
              obtain ⟨b10_, h8, h5⟩ := obind h5
              refine Wc.region [{}, {}, { v := some (.vptr [.int .i64 c9_.gKind, .str c9_.gName, .int .i64 c9_.gNum, .sl (List.map GTerm.c c9_.gKids)]) }, {}, {}, { r := some (.v (.int .i64 b10_) []) }] [] [0, 1, 5] [] [] ⟨[(0, (.v (.sl (List.map GTerm.c a4_)), [])), (1, (.v (.int .i64 b10_), [])), (5, (.v (.int .i64 b7_), []))], [], []⟩ _ (by kernel_rfl) (.cons (at_obl (c := GTerm.c) (GTerm.c_eq c9_) GTerm.c_len h7) (.cons (len_ok 4 [.int .i64 c9_.gKind, .str c9_.gName, .int .i64 c9_.gNum, .sl (List.map GTerm.c c9_.gKids)]) (.cons (ih_plaws_szTerm h8) .nil))) ?_
              refine Wc.seq ?_
              refine Wc.region [] [] [0, 1, 5, 25] [] [] ⟨[(0, (.v (.sl (List.map GTerm.c a4_)), [])), (1, (.v (.int .i64 b10_), [])), (5, (.v (.int .i64 b7_), [])), (25, (.v (.bool (decide (b10_ < 0))), []))], [], []⟩ _ (by kernel_rfl) .nil ?_
              rcases oif h5 with ⟨h9, h5⟩ | ⟨h9, h5⟩
              · refine Wc.condT h9 (by kernel_rfl) ?_
                refine Wc.seq ?_
                refine Wc.region [] [] [4] [] [] ⟨[(4, (.v (.int .i64 (-1)), []))], [], []⟩ _ (by kernel_rfl) .nil ?_
                refine Wc.ret ?_
                obtain rfl := Option.some.inj h5
                obtain rfl := Option.some.inj h
                exact ⟨.inl rfl, by kernel_rfl, by kernel_rfl⟩
              · refine Wc.condF h9 (by kernel_rfl) ?_
                refine Wc.fix (st' := ⟨[(0, (.v (.sl (List.map GTerm.c a4_)), [])), (1, (.v (.int .i64 b10_), [])), (5, (.v (.int .i64 b7_), []))], [], []⟩) [] [0, 1, 5] [] [] (by kernel_rfl) ?_
                refine Wc.skip ?_
                refine Wc.region [] [] [0, 1, 5] [] [] ⟨[(0, (.v (.sl (List.map GTerm.c a4_)), [])), (1, (.v (.int .i64 b10_), [])), (5, (.v (.int .i64 (wr.i64 (b7_ + 1))), []))], [], []⟩ _ (by kernel_rfl) .nil ?_
                exact ⟨_, Nat.lt_succ_self _, _, _, rfl, h5⟩
            · refine Wc.condF h6 (by kernel_rfl) ?_
              refine Wc.fix (st' := ⟨[(1, (.v (.int .i64 b6_), []))], [], []⟩) [] [1] [] [] (by kernel_rfl) ?_
              refine Wc.exit ?_
              obtain rfl := Option.some.inj h5
              exact ⟨_, rfl, rfl⟩
        · rintro st ⟨b8_, rfl, rfl⟩
          refine Wc.seq ?_
          refine Wc.region [] [] [4] [] [] ⟨[(4, (.v (.int .i64 b8_), []))], [], []⟩ _ (by kernel_rfl) .nil ?_
          refine Wc.ret ?_
          obtain rfl := Option.some.inj h
          exact ⟨.inl rfl, by kernel_rfl, by kernel_rfl⟩
theorem claws_szTerm {k : Nat} {c1_ : GTerm} {b2_ : Int} {r : Int} (h : plaws_szTerm k c1_ b2_ = some r) : FnO Try.prog 114 [.v (.agg [.int .i64 c1_.gKind, .str c1_.gName, .int .i64 c1_.gNum, .sl (List.map GTerm.c c1_.gKids)]) [], .v (.int .i64 b2_) []] (.v (.int .i64 r) []) [] := (all_plaws_szTerm k).1 h
theorem claws_szTermS {k : Nat} {a4_ : List GTerm} {b5_ : Int} {r : Int} (h : plaws_szTermS k a4_ b5_ = some r) : FnO Try.prog 131 [.v (.sl (List.map GTerm.c a4_)) [], .v (.int .i64 b5_) []] (.v (.int .i64 r) []) [] := (all_plaws_szTerm k).2 h

/-- laws.szClause -/
def plaws_szClause (k : Nat) (d11_ : GClause) (b12_ : Int) : Option Int :=
  (plaws_szTerm k d11_.gHead b12_).bind fun b13_ =>
  if (decide (b13_ < 0)) = true then
    some (-1)
  else
    (plaws_szTerm k d11_.gBody b13_).bind fun b14_ =>
    if (decide (b14_ < 0)) = true then
      some (-1)
    else
      if (decide ((wr.i64 (b14_ - (d11_.gFile.size : Int))) < 0)) = true then
        some (-1)
      else
        some (wr.i64 (b14_ - (d11_.gFile.size : Int)))
theorem claws_szClause {k : Nat} {d11_ : GClause} {b12_ : Int} {r : Int} (h : plaws_szClause k d11_ b12_ = some r) : FnO Try.prog 81 [.v (.agg [.int .i64 d11_.gHead.gKind, .str d11_.gHead.gName, .int .i64 d11_.gHead.gNum, .sl (List.map GTerm.c d11_.gHead.gKids), .int .i64 d11_.gBody.gKind, .str d11_.gBody.gName, .int .i64 d11_.gBody.gNum, .sl (List.map GTerm.c d11_.gBody.gKids), .str d11_.gFile]) [], .v (.int .i64 b12_) []] (.v (.int .i64 r) []) [] := by
  refine FnO.of Try.func81 (rfl : Try.f81.body = some _) (Nat.le_of_ble_eq_true (by kernel_rfl)) (Nat.le_of_ble_eq_true (by kernel_rfl)) ?_
  intro w0 X0 Fin pv0 pb gt
  unfold plaws_szClause at h
  refine Wc.seq ?_
  refine Wc.region [] [] [1, 2] [2] [] ⟨[(1, (.v (.int .i64 b12_), [])), (2, (.ptr 2 0, []))], [(2, .cells [.int .i64 d11_.gHead.gKind, .str d11_.gHead.gName, .int .i64 d11_.gHead.gNum, .sl (List.map GTerm.c d11_.gHead.gKids), .int .i64 d11_.gBody.gKind, .str d11_.gBody.gName, .int .i64 d11_.gBody.gNum, .sl (List.map GTerm.c d11_.gBody.gKids), .str d11_.gFile] [])], []⟩ _ (by kernel_rfl) .nil ?_
  refine Wc.seq ?_
  obtain ⟨b13_, h10, h⟩ := obind h
  refine Wc.region [{}, {}, {}, { r := some (.v (.int .i64 b13_) []) }] [] [1, 2] [2] [] ⟨[(1, (.v (.int .i64 b13_), [])), (2, (.ptr 2 0, []))], [(2, .cells [.int .i64 d11_.gHead.gKind, .str d11_.gHead.gName, .int .i64 d11_.gHead.gNum, .sl (List.map GTerm.c d11_.gHead.gKids), .int .i64 d11_.gBody.gKind, .str d11_.gBody.gName, .int .i64 d11_.gBody.gNum, .sl (List.map GTerm.c d11_.gBody.gKids), .str d11_.gFile] [])], []⟩ _ (by kernel_rfl) (.cons (claws_szTerm h10) .nil) ?_
  refine Wc.seq ?_
  refine Wc.seq ?_
  refine Wc.region [] [] [1, 2, 10] [2] [] ⟨[(1, (.v (.int .i64 b13_), [])), (2, (.ptr 2 0, [])), (10, (.v (.bool (decide (b13_ < 0))), []))], [(2, .cells [.int .i64 d11_.gHead.gKind, .str d11_.gHead.gName, .int .i64 d11_.gHead.gNum, .sl (List.map GTerm.c d11_.gHead.gKids), .int .i64 d11_.gBody.gKind, .str d11_.gBody.gName, .int .i64 d11_.gBody.gNum, .sl (List.map GTerm.c d11_.gBody.gKids), .str d11_.gFile] [])], []⟩ _ (by kernel_rfl) .nil ?_
  rcases oif h with ⟨h11, h⟩ | ⟨h11, h⟩
  · refine Wc.condT h11 (by kernel_rfl) ?_
    refine Wc.seq ?_
    refine Wc.region [] [] [4] [] [] ⟨[(4, (.v (.int .i64 (-1)), []))], [], []⟩ _ (by kernel_rfl) .nil ?_
    refine Wc.ret ?_
    obtain rfl := Option.some.inj h
    exact ⟨.inl rfl, by kernel_rfl, by kernel_rfl⟩
  · refine Wc.condF h11 (by kernel_rfl) ?_
    refine Wc.fix (st' := ⟨[(1, (.v (.int .i64 b13_), [])), (2, (.ptr 2 0, []))], [(2, .cells [.int .i64 d11_.gHead.gKind, .str d11_.gHead.gName, .int .i64 d11_.gHead.gNum, .sl (List.map GTerm.c d11_.gHead.gKids), .int .i64 d11_.gBody.gKind, .str d11_.gBody.gName, .int .i64 d11_.gBody.gNum, .sl (List.map GTerm.c d11_.gBody.gKids), .str d11_.gFile] [])], []⟩) [] [1, 2] [2] [] (by kernel_rfl) ?_
    refine Wc.skip ?_
    refine Wc.seq ?_
    obtain ⟨b14_, h12, h⟩ := obind h
    refine Wc.region [{}, {}, {}, { r := some (.v (.int .i64 b14_) []) }] [] [1, 2] [2] [] ⟨[(1, (.v (.int .i64 b14_), [])), (2, (.ptr 2 0, []))], [(2, .cells [.int .i64 d11_.gHead.gKind, .str d11_.gHead.gName, .int .i64 d11_.gHead.gNum, .sl (List.map GTerm.c d11_.gHead.gKids), .int .i64 d11_.gBody.gKind, .str d11_.gBody.gName, .int .i64 d11_.gBody.gNum, .sl (List.map GTerm.c d11_.gBody.gKids), .str d11_.gFile] [])], []⟩ _ (by kernel_rfl) (.cons (claws_szTerm h12) .nil) ?_
    refine Wc.seq ?_
    refine Wc.seq ?_
    refine Wc.region [] [] [1, 2, 16] [2] [] ⟨[(1, (.v (.int .i64 b14_), [])), (2, (.ptr 2 0, [])), (16, (.v (.bool (decide (b14_ < 0))), []))], [(2, .cells [.int .i64 d11_.gHead.gKind, .str d11_.gHead.gName, .int .i64 d11_.gHead.gNum, .sl (List.map GTerm.c d11_.gHead.gKids), .int .i64 d11_.gBody.gKind, .str d11_.gBody.gName, .int .i64 d11_.gBody.gNum, .sl (List.map GTerm.c d11_.gBody.gKids), .str d11_.gFile] [])], []⟩ _ (by kernel_rfl) .nil ?_
    rcases oif h with ⟨h13, h⟩ | ⟨h13, h⟩
    · refine Wc.condT h13 (by kernel_rfl) ?_
      refine Wc.seq ?_
      refine Wc.region [] [] [4] [] [] ⟨[(4, (.v (.int .i64 (-1)), []))], [], []⟩ _ (by kernel_rfl) .nil ?_
      refine Wc.ret ?_
      obtain rfl := Option.some.inj h
      exact ⟨.inl rfl, by kernel_rfl, by kernel_rfl⟩
    · refine Wc.condF h13 (by kernel_rfl) ?_
      refine Wc.fix (st' := ⟨[(1, (.v (.int .i64 b14_), [])), (2, (.ptr 2 0, []))], [(2, .cells [.int .i64 d11_.gHead.gKind, .str d11_.gHead.gName, .int .i64 d11_.gHead.gNum, .sl (List.map GTerm.c d11_.gHead.gKids), .int .i64 d11_.gBody.gKind, .str d11_.gBody.gName, .int .i64 d11_.gBody.gNum, .sl (List.map GTerm.c d11_.gBody.gKids), .str d11_.gFile] [])], []⟩) [] [1, 2] [2] [] (by kernel_rfl) ?_
      refine Wc.skip ?_
      refine Wc.seq ?_
      refine Wc.region [] [] [1] [] [] ⟨[(1, (.v (.int .i64 (wr.i64 (b14_ - (d11_.gFile.size : Int)))), []))], [], []⟩ _ (by kernel_rfl) .nil ?_
      refine Wc.seq ?_
      refine Wc.seq ?_
      refine Wc.region [] [] [1, 23] [] [] ⟨[(1, (.v (.int .i64 (wr.i64 (b14_ - (d11_.gFile.size : Int)))), [])), (23, (.v (.bool (decide ((wr.i64 (b14_ - (d11_.gFile.size : Int))) < 0))), []))], [], []⟩ _ (by kernel_rfl) .nil ?_
      rcases oif h with ⟨h14, h⟩ | ⟨h14, h⟩
      · refine Wc.condT h14 (by kernel_rfl) ?_
        refine Wc.seq ?_
        refine Wc.region [] [] [4] [] [] ⟨[(4, (.v (.int .i64 (-1)), []))], [], []⟩ _ (by kernel_rfl) .nil ?_
        refine Wc.ret ?_
        obtain rfl := Option.some.inj h
        exact ⟨.inl rfl, by kernel_rfl, by kernel_rfl⟩
      · refine Wc.condF h14 (by kernel_rfl) ?_
        refine Wc.fix (st' := ⟨[(1, (.v (.int .i64 (wr.i64 (b14_ - (d11_.gFile.size : Int)))), []))], [], []⟩) [] [1] [] [] (by kernel_rfl) ?_
        refine Wc.skip ?_
        refine Wc.seq ?_
        refine Wc.region [] [] [4] [] [] ⟨[(4, (.v (.int .i64 (wr.i64 (b14_ - (d11_.gFile.size : Int)))), []))], [], []⟩ _ (by kernel_rfl) .nil ?_
        refine Wc.ret ?_
        obtain rfl := Option.some.inj h
        exact ⟨.inl rfl, by kernel_rfl, by kernel_rfl⟩

def plaws_szClauseS_L1 (k : Nat) (e15_ : List GClause) : Nat → Int → Int → Option (Out Int Int)
  | 0, _, _ => none
  | m + 1, b17_, b18_ =>
    if (decide (b18_ < (e15_.length : Int))) = true then
      (at' e15_ b18_).bind fun d20_ =>
      (plaws_szClause k d20_ b17_).bind fun b21_ =>
      if (decide (b21_ < 0)) = true then
        some (.ret (-1))
      else
        plaws_szClauseS_L1 k e15_ m b21_ (wr.i64 (b18_ + 1))
    else
      some (.done b17_)
/-- laws.szClauseS -/
def plaws_szClauseS (k : Nat) (e15_ : List GClause) (b16_ : Int) : Option Int :=
  if (decide ((wr.i64 (b16_ - (e15_.length : Int))) < 0)) = true then
    some (-1)
  else
    (plaws_szClauseS_L1 k e15_ k (wr.i64 (b16_ - (e15_.length : Int))) 0).bind fun out1 => match out1 with
    | .ret r => some r
    | .done b19_ =>
      some b19_
theorem claws_szClauseS {k : Nat} {e15_ : List GClause} {b16_ : Int} {r : Int} (h : plaws_szClauseS k e15_ b16_ = some r) : FnO Try.prog 35 [.v (.sl (List.map GClause.c e15_)) [], .v (.int .i64 b16_) []] (.v (.int .i64 r) []) [] := by
  refine FnO.of Try.func35 (rfl : Try.f35.body = some _) (Nat.le_of_ble_eq_true (by kernel_rfl)) (Nat.le_of_ble_eq_true (by kernel_rfl)) ?_
  intro w0 X0 Fin pv0 pb gt
  unfold plaws_szClauseS at h
  refine Wc.seq ?_
  refine Wc.region [] [] [0, 1] [] [] ⟨[(0, (.v (.sl (List.map GClause.c e15_)), [])), (1, (.v (.int .i64 b16_), []))], [], []⟩ _ (by kernel_rfl) .nil ?_
  refine Wc.seq ?_
  refine Wc.region [{}, {}, { v := some (.int .i64 (e15_.length : Int)) }] [] [0, 1] [] [] ⟨[(0, (.v (.sl (List.map GClause.c e15_)), [])), (1, (.v (.int .i64 (wr.i64 (b16_ - (e15_.length : Int)))), []))], [], []⟩ _ (by kernel_rfl) (.cons (len_obl GClause.c e15_) .nil) ?_
  refine Wc.seq ?_
  refine Wc.seq ?_
  refine Wc.region [] [] [0, 1, 11] [] [] ⟨[(0, (.v (.sl (List.map GClause.c e15_)), [])), (1, (.v (.int .i64 (wr.i64 (b16_ - (e15_.length : Int)))), [])), (11, (.v (.bool (decide ((wr.i64 (b16_ - (e15_.length : Int))) < 0))), []))], [], []⟩ _ (by kernel_rfl) .nil ?_
  rcases oif h with ⟨h15, h⟩ | ⟨h15, h⟩
  · refine Wc.condT h15 (by kernel_rfl) ?_
    refine Wc.seq ?_
    refine Wc.region [] [] [4] [] [] ⟨[(4, (.v (.int .i64 (-1)), []))], [], []⟩ _ (by kernel_rfl) .nil ?_
    refine Wc.ret ?_
    obtain rfl := Option.some.inj h
    exact ⟨.inl rfl, by kernel_rfl, by kernel_rfl⟩
  · refine Wc.condF h15 (by kernel_rfl) ?_
    refine Wc.fix (st' := ⟨[(0, (.v (.sl (List.map GClause.c e15_)), [])), (1, (.v (.int .i64 (wr.i64 (b16_ - (e15_.length : Int)))), []))], [], []⟩) [] [0, 1] [] [] (by kernel_rfl) ?_
    refine Wc.skip ?_
    refine Wc.seq ?_
    refine Wc.seq ?_
    refine Wc.region [] [] [0, 1, 5] [] [] ⟨[(0, (.v (.sl (List.map GClause.c e15_)), [])), (1, (.v (.int .i64 (wr.i64 (b16_ - (e15_.length : Int)))), [])), (5, (.v (.int .i64 0), []))], [], []⟩ _ (by kernel_rfl) .nil ?_
    obtain ⟨out1, h16, h⟩ := obind h
    refine Wc.lastJ (fun st => ∃ (b19_ : Int), out1 = .done b19_ ∧ st = ⟨[(1, (.v (.int .i64 b19_), []))], [], []⟩) ?_ ?_
    · refine Wc.block ?_
      refine Wc.loop (fun m st => ∃ (b17_ : Int) (b18_ : Int), st = ⟨[(0, (.v (.sl (List.map GClause.c e15_)), [])), (1, (.v (.int .i64 b17_), [])), (5, (.v (.int .i64 b18_), []))], [], []⟩ ∧ plaws_szClauseS_L1 k e15_ m b17_ b18_ = some out1) ?_ k ⟨_, _, rfl, h16⟩
      rintro m st ⟨b17_, b18_, rfl, h16⟩
      cases m with
      | zero => exact (onone h16).elim
      | succ m =>
        refine Wc.seq ?_
        refine Wc.seq ?_
        refine Wc.region [{}, {}, { v := some (.int .i64 (e15_.length : Int)) }] [] [0, 1, 5, 15] [] [] ⟨[(0, (.v (.sl (List.map GClause.c e15_)), [])), (1, (.v (.int .i64 b17_), [])), (5, (.v (.int .i64 b18_), [])), (15, (.v (.bool (decide (b18_ < (e15_.length : Int)))), []))], [], []⟩ _ (by kernel_rfl) (.cons (len_obl GClause.c e15_) .nil) ?_
        rcases oif h16 with ⟨h17, h16⟩ | ⟨h17, h16⟩
        · refine Wc.condT h17 (by kernel_rfl) ?_
          refine Wc.fix (st' := ⟨[(0, (.v (.sl (List.map GClause.c e15_)), [])), (1, (.v (.int .i64 b17_), [])), (5, (.v (.int .i64 b18_), []))], [], []⟩) [] [0, 1, 5] [] [] (by kernel_rfl) ?_
          refine Wc.skip ?_
          refine Wc.seq ?_
          refine Wc.block ?_
          refine Wc.seq ?_
          obtain ⟨d20_, h18, h16⟩ := obind h16
          obtain ⟨b21_, h19, h16⟩ := obind h16
          refine Wc.region [{}, {}, { v := some (.vptr [.int .i64 d20_.gHead.gKind, .str d20_.gHead.gName, .int .i64 d20_.gHead.gNum, .sl (List.map GTerm.c d20_.gHead.gKids), .int .i64 d20_.gBody.gKind, .str d20_.gBody.gName, .int .i64 d20_.gBody.gNum, .sl (List.map GTerm.c d20_.gBody.gKids), .str d20_.gFile]) }, {}, {}, { r := some (.v (.int .i64 b21_) []) }] [] [0, 1, 5] [] [] ⟨[(0, (.v (.sl (List.map GClause.c e15_)), [])), (1, (.v (.int .i64 b21_), [])), (5, (.v (.int .i64 b18_), []))], [], []⟩ _ (by kernel_rfl) (.cons (at_obl (c := GClause.c) (GClause.c_eq d20_) GClause.c_len h18) (.cons (len_ok 9 [.int .i64 d20_.gHead.gKind, .str d20_.gHead.gName, .int .i64 d20_.gHead.gNum, .sl (List.map GTerm.c d20_.gHead.gKids), .int .i64 d20_.gBody.gKind, .str d20_.gBody.gName, .int .i64 d20_.gBody.gNum, .sl (List.map GTerm.c d20_.gBody.gKids), .str d20_.gFile]) (.cons (claws_szClause h19) .nil))) ?_
          refine Wc.seq ?_
          refine Wc.region [] [] [0, 1, 5, 25] [] [] ⟨[(0, (.v (.sl (List.map GClause.c e15_)), [])), (1, (.v (.int .i64 b21_), [])), (5, (.v (.int .i64 b18_), [])), (25, (.v (.bool (decide (b21_ < 0))), []))], [], []⟩ _ (by kernel_rfl) .nil ?_
          rcases oif h16 with ⟨h20, h16⟩ | ⟨h20, h16⟩
          · refine Wc.condT h20 (by kernel_rfl) ?_
            refine Wc.seq ?_
            refine Wc.region [] [] [4] [] [] ⟨[(4, (.v (.int .i64 (-1)), []))], [], []⟩ _ (by kernel_rfl) .nil ?_
            refine Wc.ret ?_
            obtain rfl := Option.some.inj h16
            obtain rfl := Option.some.inj h
            exact ⟨.inl rfl, by kernel_rfl, by kernel_rfl⟩
          · refine Wc.condF h20 (by kernel_rfl) ?_
            refine Wc.fix (st' := ⟨[(0, (.v (.sl (List.map GClause.c e15_)), [])), (1, (.v (.int .i64 b21_), [])), (5, (.v (.int .i64 b18_), []))], [], []⟩) [] [0, 1, 5] [] [] (by kernel_rfl) ?_
            refine Wc.skip ?_
            refine Wc.region [] [] [0, 1, 5] [] [] ⟨[(0, (.v (.sl (List.map GClause.c e15_)), [])), (1, (.v (.int .i64 b21_), [])), (5, (.v (.int .i64 (wr.i64 (b18_ + 1))), []))], [], []⟩ _ (by kernel_rfl) .nil ?_
            exact ⟨_, Nat.lt_succ_self _, _, _, rfl, h16⟩
        · refine Wc.condF h17 (by kernel_rfl) ?_
          refine Wc.fix (st' := ⟨[(1, (.v (.int .i64 b17_), []))], [], []⟩) [] [1] [] [] (by kernel_rfl) ?_
          refine Wc.exit ?_
          obtain rfl := Option.some.inj h16
          exact ⟨_, rfl, rfl⟩
    · rintro st ⟨b19_, rfl, rfl⟩
      refine Wc.seq ?_
      refine Wc.region [] [] [4] [] [] ⟨[(4, (.v (.int .i64 b19_), []))], [], []⟩ _ (by kernel_rfl) .nil ?_
      refine Wc.ret ?_
      obtain rfl := Option.some.inj h
      exact ⟨.inl rfl, by kernel_rfl, by kernel_rfl⟩

def plaws_szStringS_L1 (k : Nat) (f22_ : List ByteArray) : Nat → Int → Int → Option (Out Int Int)
  | 0, _, _ => none
  | m + 1, b24_, b25_ =>
    if (decide (b25_ < (f22_.length : Int))) = true then
      (at' f22_ b25_).bind fun g27_ =>
      if (decide ((wr.i64 (b24_ - (g27_.size : Int))) < 0)) = true then
        some (.ret (-1))
      else
        plaws_szStringS_L1 k f22_ m (wr.i64 (b24_ - (g27_.size : Int))) (wr.i64 (b25_ + 1))
    else
      some (.done b24_)
/-- laws.szStringS -/
def plaws_szStringS (k : Nat) (f22_ : List ByteArray) (b23_ : Int) : Option Int :=
  if (decide ((wr.i64 (b23_ - (f22_.length : Int))) < 0)) = true then
    some (-1)
  else
    (plaws_szStringS_L1 k f22_ k (wr.i64 (b23_ - (f22_.length : Int))) 0).bind fun out1 => match out1 with
    | .ret r => some r
    | .done b26_ =>
      some b26_
theorem claws_szStringS {k : Nat} {f22_ : List ByteArray} {b23_ : Int} {r : Int} (h : plaws_szStringS k f22_ b23_ = some r) : FnO Try.prog 36 [.v (.sl (List.map cS f22_)) [], .v (.int .i64 b23_) []] (.v (.int .i64 r) []) [] := by
  refine FnO.of Try.func36 (rfl : Try.f36.body = some _) (Nat.le_of_ble_eq_true (by kernel_rfl)) (Nat.le_of_ble_eq_true (by kernel_rfl)) ?_
  intro w0 X0 Fin pv0 pb gt
  unfold plaws_szStringS at h
  refine Wc.seq ?_
  refine Wc.region [] [] [0, 1] [] [] ⟨[(0, (.v (.sl (List.map cS f22_)), [])), (1, (.v (.int .i64 b23_), []))], [], []⟩ _ (by kernel_rfl) .nil ?_
  refine Wc.seq ?_
  refine Wc.region [{}, {}, { v := some (.int .i64 (f22_.length : Int)) }] [] [0, 1] [] [] ⟨[(0, (.v (.sl (List.map cS f22_)), [])), (1, (.v (.int .i64 (wr.i64 (b23_ - (f22_.length : Int)))), []))], [], []⟩ _ (by kernel_rfl) (.cons (len_obl cS f22_) .nil) ?_
  refine Wc.seq ?_
  refine Wc.seq ?_
  refine Wc.region [] [] [0, 1, 11] [] [] ⟨[(0, (.v (.sl (List.map cS f22_)), [])), (1, (.v (.int .i64 (wr.i64 (b23_ - (f22_.length : Int)))), [])), (11, (.v (.bool (decide ((wr.i64 (b23_ - (f22_.length : Int))) < 0))), []))], [], []⟩ _ (by kernel_rfl) .nil ?_
  rcases oif h with ⟨h21, h⟩ | ⟨h21, h⟩
  · refine Wc.condT h21 (by kernel_rfl) ?_
    refine Wc.seq ?_
    refine Wc.region [] [] [4] [] [] ⟨[(4, (.v (.int .i64 (-1)), []))], [], []⟩ _ (by kernel_rfl) .nil ?_
    refine Wc.ret ?_
    obtain rfl := Option.some.inj h
    exact ⟨.inl rfl, by kernel_rfl, by kernel_rfl⟩
  · refine Wc.condF h21 (by kernel_rfl) ?_
    refine Wc.fix (st' := ⟨[(0, (.v (.sl (List.map cS f22_)), [])), (1, (.v (.int .i64 (wr.i64 (b23_ - (f22_.length : Int)))), []))], [], []⟩) [] [0, 1] [] [] (by kernel_rfl) ?_
    refine Wc.skip ?_
    refine Wc.seq ?_
    refine Wc.seq ?_
    refine Wc.region [] [] [0, 1, 5] [] [] ⟨[(0, (.v (.sl (List.map cS f22_)), [])), (1, (.v (.int .i64 (wr.i64 (b23_ - (f22_.length : Int)))), [])), (5, (.v (.int .i64 0), []))], [], []⟩ _ (by kernel_rfl) .nil ?_
    obtain ⟨out1, h22, h⟩ := obind h
    refine Wc.lastJ (fun st => ∃ (b26_ : Int), out1 = .done b26_ ∧ st = ⟨[(1, (.v (.int .i64 b26_), []))], [], []⟩) ?_ ?_
    · refine Wc.block ?_
      refine Wc.loop (fun m st => ∃ (b24_ : Int) (b25_ : Int), st = ⟨[(0, (.v (.sl (List.map cS f22_)), [])), (1, (.v (.int .i64 b24_), [])), (5, (.v (.int .i64 b25_), []))], [], []⟩ ∧ plaws_szStringS_L1 k f22_ m b24_ b25_ = some out1) ?_ k ⟨_, _, rfl, h22⟩
      rintro m st ⟨b24_, b25_, rfl, h22⟩
      cases m with
      | zero => exact (onone h22).elim
      | succ m =>
        refine Wc.seq ?_
        refine Wc.seq ?_
        refine Wc.region [{}, {}, { v := some (.int .i64 (f22_.length : Int)) }] [] [0, 1, 5, 15] [] [] ⟨[(0, (.v (.sl (List.map cS f22_)), [])), (1, (.v (.int .i64 b24_), [])), (5, (.v (.int .i64 b25_), [])), (15, (.v (.bool (decide (b25_ < (f22_.length : Int)))), []))], [], []⟩ _ (by kernel_rfl) (.cons (len_obl cS f22_) .nil) ?_
        rcases oif h22 with ⟨h23, h22⟩ | ⟨h23, h22⟩
        · refine Wc.condT h23 (by kernel_rfl) ?_
          refine Wc.fix (st' := ⟨[(0, (.v (.sl (List.map cS f22_)), [])), (1, (.v (.int .i64 b24_), [])), (5, (.v (.int .i64 b25_), []))], [], []⟩) [] [0, 1, 5] [] [] (by kernel_rfl) ?_
          refine Wc.skip ?_
          refine Wc.seq ?_
          refine Wc.block ?_
          refine Wc.seq ?_
          obtain ⟨g27_, h24, h22⟩ := obind h22
          refine Wc.region [{}, {}, {}, { v := some (.vptr [.str g27_]) }] [] [0, 1, 5] [] [] ⟨[(0, (.v (.sl (List.map cS f22_)), [])), (1, (.v (.int .i64 (wr.i64 (b24_ - (g27_.size : Int)))), [])), (5, (.v (.int .i64 b25_), []))], [], []⟩ _ (by kernel_rfl) (.cons (at_obl (c := cS) rfl cS_len h24) (.cons (len_ok 1 [.str g27_]) .nil)) ?_
          refine Wc.seq ?_
          refine Wc.region [] [] [0, 1, 5, 26] [] [] ⟨[(0, (.v (.sl (List.map cS f22_)), [])), (1, (.v (.int .i64 (wr.i64 (b24_ - (g27_.size : Int)))), [])), (5, (.v (.int .i64 b25_), [])), (26, (.v (.bool (decide ((wr.i64 (b24_ - (g27_.size : Int))) < 0))), []))], [], []⟩ _ (by kernel_rfl) .nil ?_
          rcases oif h22 with ⟨h25, h22⟩ | ⟨h25, h22⟩
          · refine Wc.condT h25 (by kernel_rfl) ?_
            refine Wc.seq ?_
            refine Wc.region [] [] [4] [] [] ⟨[(4, (.v (.int .i64 (-1)), []))], [], []⟩ _ (by kernel_rfl) .nil ?_
            refine Wc.ret ?_
            obtain rfl := Option.some.inj h22
            obtain rfl := Option.some.inj h
            exact ⟨.inl rfl, by kernel_rfl, by kernel_rfl⟩
          · refine Wc.condF h25 (by kernel_rfl) ?_
            refine Wc.fix (st' := ⟨[(0, (.v (.sl (List.map cS f22_)), [])), (1, (.v (.int .i64 (wr.i64 (b24_ - (g27_.size : Int)))), [])), (5, (.v (.int .i64 b25_), []))], [], []⟩) [] [0, 1, 5] [] [] (by kernel_rfl) ?_
            refine Wc.skip ?_
            refine Wc.region [] [] [0, 1, 5] [] [] ⟨[(0, (.v (.sl (List.map cS f22_)), [])), (1, (.v (.int .i64 (wr.i64 (b24_ - (g27_.size : Int)))), [])), (5, (.v (.int .i64 (wr.i64 (b25_ + 1))), []))], [], []⟩ _ (by kernel_rfl) .nil ?_
            exact ⟨_, Nat.lt_succ_self _, _, _, rfl, h22⟩
        · refine Wc.condF h23 (by kernel_rfl) ?_
          refine Wc.fix (st' := ⟨[(1, (.v (.int .i64 b24_), []))], [], []⟩) [] [1] [] [] (by kernel_rfl) ?_
          refine Wc.exit ?_
          obtain rfl := Option.some.inj h22
          exact ⟨_, rfl, rfl⟩
    · rintro st ⟨b26_, rfl, rfl⟩
      refine Wc.seq ?_
      refine Wc.region [] [] [4] [] [] ⟨[(4, (.v (.int .i64 b26_), []))], [], []⟩ _ (by kernel_rfl) .nil ?_
      refine Wc.ret ?_
      obtain rfl := Option.some.inj h
      exact ⟨.inl rfl, by kernel_rfl, by kernel_rfl⟩

/-- laws.szDb -/
def plaws_szDb (k : Nat) (i28_ : GDb) (b29_ : Int) : Option Int :=
  (plaws_szClauseS k i28_.gClauses b29_).bind fun b30_ =>
  if (decide (b30_ < 0)) = true then
    some (-1)
  else
    (plaws_szStringS k i28_.gOpen b30_).bind fun b31_ =>
    if (decide (b31_ < 0)) = true then
      some (-1)
    else
      some b31_
theorem claws_szDb {k : Nat} {i28_ : GDb} {b29_ : Int} {r : Int} (h : plaws_szDb k i28_ b29_ = some r) : FnO Try.prog 6 [.v (.agg [.sl (List.map GClause.c i28_.gClauses), .sl (List.map cS i28_.gOpen)]) [], .v (.int .i64 b29_) []] (.v (.int .i64 r) []) [] := by
  refine FnO.of Try.func6 (rfl : Try.f6.body = some _) (Nat.le_of_ble_eq_true (by kernel_rfl)) (Nat.le_of_ble_eq_true (by kernel_rfl)) ?_
  intro w0 X0 Fin pv0 pb gt
  unfold plaws_szDb at h
  refine Wc.seq ?_
  refine Wc.region [] [] [1, 2] [2] [] ⟨[(1, (.v (.int .i64 b29_), [])), (2, (.ptr 2 0, []))], [(2, .cells [.sl (List.map GClause.c i28_.gClauses), .sl (List.map cS i28_.gOpen)] [])], []⟩ _ (by kernel_rfl) .nil ?_
  refine Wc.seq ?_
  obtain ⟨b30_, h26, h⟩ := obind h
  refine Wc.region [{}, {}, {}, { r := some (.v (.int .i64 b30_) []) }] [] [1, 2] [2] [] ⟨[(1, (.v (.int .i64 b30_), [])), (2, (.ptr 2 0, []))], [(2, .cells [.sl (List.map GClause.c i28_.gClauses), .sl (List.map cS i28_.gOpen)] [])], []⟩ _ (by kernel_rfl) (.cons (claws_szClauseS h26) .nil) ?_
  refine Wc.seq ?_
  refine Wc.seq ?_
  refine Wc.region [] [] [1, 2, 10] [2] [] ⟨[(1, (.v (.int .i64 b30_), [])), (2, (.ptr 2 0, [])), (10, (.v (.bool (decide (b30_ < 0))), []))], [(2, .cells [.sl (List.map GClause.c i28_.gClauses), .sl (List.map cS i28_.gOpen)] [])], []⟩ _ (by kernel_rfl) .nil ?_
  rcases oif h with ⟨h27, h⟩ | ⟨h27, h⟩
  · refine Wc.condT h27 (by kernel_rfl) ?_
    refine Wc.seq ?_
    refine Wc.region [] [] [4] [] [] ⟨[(4, (.v (.int .i64 (-1)), []))], [], []⟩ _ (by kernel_rfl) .nil ?_
    refine Wc.ret ?_
    obtain rfl := Option.some.inj h
    exact ⟨.inl rfl, by kernel_rfl, by kernel_rfl⟩
  · refine Wc.condF h27 (by kernel_rfl) ?_
    refine Wc.fix (st' := ⟨[(1, (.v (.int .i64 b30_), [])), (2, (.ptr 2 0, []))], [(2, .cells [.sl (List.map GClause.c i28_.gClauses), .sl (List.map cS i28_.gOpen)] [])], []⟩) [] [1, 2] [2] [] (by kernel_rfl) ?_
    refine Wc.skip ?_
    refine Wc.seq ?_
    obtain ⟨b31_, h28, h⟩ := obind h
    refine Wc.region [{}, {}, {}, { r := some (.v (.int .i64 b31_) []) }] [] [1] [] [] ⟨[(1, (.v (.int .i64 b31_), []))], [], []⟩ _ (by kernel_rfl) (.cons (claws_szStringS h28) .nil) ?_
    refine Wc.seq ?_
    refine Wc.seq ?_
    refine Wc.region [] [] [1, 16] [] [] ⟨[(1, (.v (.int .i64 b31_), [])), (16, (.v (.bool (decide (b31_ < 0))), []))], [], []⟩ _ (by kernel_rfl) .nil ?_
    rcases oif h with ⟨h29, h⟩ | ⟨h29, h⟩
    · refine Wc.condT h29 (by kernel_rfl) ?_
      refine Wc.seq ?_
      refine Wc.region [] [] [4] [] [] ⟨[(4, (.v (.int .i64 (-1)), []))], [], []⟩ _ (by kernel_rfl) .nil ?_
      refine Wc.ret ?_
      obtain rfl := Option.some.inj h
      exact ⟨.inl rfl, by kernel_rfl, by kernel_rfl⟩
    · refine Wc.condF h29 (by kernel_rfl) ?_
      refine Wc.fix (st' := ⟨[(1, (.v (.int .i64 b31_), []))], [], []⟩) [] [1] [] [] (by kernel_rfl) ?_
      refine Wc.skip ?_
      refine Wc.seq ?_
      refine Wc.region [] [] [4] [] [] ⟨[(4, (.v (.int .i64 b31_), []))], [], []⟩ _ (by kernel_rfl) .nil ?_
      refine Wc.ret ?_
      obtain rfl := Option.some.inj h
      exact ⟨.inl rfl, by kernel_rfl, by kernel_rfl⟩

def pspec_l17WipedRaw_L1 (k : Nat) (i39_ : GDb) (g40_ : ByteArray) : Nat → Int → GDb → Option (Out GDb GDb)
  | 0, _, _ => none
  | m + 1, b41_, i42_ =>
    if (decide (b41_ < (i39_.gClauses.length : Int))) = true then
      (at' i39_.gClauses b41_).bind fun d44_ =>
      if (!(sEq d44_.gFile g40_)) = true then
        (at' i39_.gClauses b41_).bind fun d45_ =>
        if i42_.gClauses.length + [d45_].length ≤ 1073741824 then
          pspec_l17WipedRaw_L1 k i39_ g40_ m (wr.i64 (b41_ + 1)) (GDb.mk (i42_.gClauses ++ [d45_]) i42_.gOpen)
        else none
      else
        pspec_l17WipedRaw_L1 k i39_ g40_ m (wr.i64 (b41_ + 1)) i42_
    else
      some (.done i42_)
/-- spec.l17WipedRaw -/
def pspec_l17WipedRaw (k : Nat) (i39_ : GDb) (g40_ : ByteArray) : Option GDb :=
  if ([] : List ByteArray).length + i39_.gOpen.length ≤ 1073741824 then
    (pspec_l17WipedRaw_L1 k i39_ g40_ k 0 (GDb.mk [] i39_.gOpen)).bind fun out1 => match out1 with
    | .ret r => some r
    | .done i43_ =>
      some i43_
  else none
theorem cspec_l17WipedRaw {k : Nat} {i39_ : GDb} {g40_ : ByteArray} {r : GDb} (h : pspec_l17WipedRaw k i39_ g40_ = some r) : FnO Try.prog 37 [.v (.agg [.sl (List.map GClause.c i39_.gClauses), .sl (List.map cS i39_.gOpen)]) [], .v (.str g40_) []] (.v (.agg [.sl (List.map GClause.c r.gClauses), .sl (List.map cS r.gOpen)]) [(0, .app 70), (1, .app 9)]) [] := by
  refine FnO.of Try.func37 (rfl : Try.f37.body = some _) (Nat.le_of_ble_eq_true (by kernel_rfl)) (Nat.le_of_ble_eq_true (by kernel_rfl)) ?_
  intro w0 X0 Fin pv0 pb gt
  unfold pspec_l17WipedRaw at h
  refine Wc.seq ?_
  refine Wc.region [] [] [1, 2, 4] [2, 4] [] ⟨[(1, (.v (.str g40_), [])), (2, (.ptr 2 0, [])), (4, (.ptr 4 0, []))], [(2, .cells [.sl (List.map GClause.c i39_.gClauses), .sl (List.map cS i39_.gOpen)] []), (4, .cells [.sl (List.map GClause.c []), .sl (List.map cS [])] [(0, .app 70), (1, .app 9)])], []⟩ _ (by kernel_rfl) .nil ?_
  refine Wc.seq ?_
  obtain ⟨h37, h⟩ := oguard h
  refine Wc.region [{ c := some (List.map cS []) }, {}, {}, { c := some (List.map cS i39_.gOpen), tk := [7] }, { tk := [10] }, {}, { tk := [11] }] [] [1, 2, 4, 5] [2, 4, 5] [] ⟨[(1, (.v (.str g40_), [])), (2, (.ptr 2 0, [])), (4, (.ptr 4 0, [])), (5, (.ptr 5 0, []))], [(2, .cells [.sl (List.map GClause.c i39_.gClauses), .sl (List.map cS i39_.gOpen)] []), (4, .cells [.sl (List.map GClause.c []), .sl (List.map cS [])] [(0, .app 70), (1, .app 9)]), (5, .cells [.sl (List.map GClause.c []), .sl (List.map cS i39_.gOpen)] [(0, .app 70), (1, .app 9)])], []⟩ _ (by kernel_rfl) (.cons (cl_nil cS) (.cons (app_re0 cS i39_.gOpen) (.cons (app_leaf (c := cS) (ys := i39_.gOpen) cS_leaf) (.cons (app_obl2 (c := cS) (xs := []) (ys := i39_.gOpen) cS_len h37) .nil)))) ?_
  refine Wc.seq ?_
  refine Wc.seq ?_
  refine Wc.region [] [] [1, 2, 4, 5, 6] [2, 4, 5] [] ⟨[(1, (.v (.str g40_), [])), (2, (.ptr 2 0, [])), (4, (.ptr 4 0, [])), (5, (.ptr 5 0, [])), (6, (.v (.int .i64 0), []))], [(2, .cells [.sl (List.map GClause.c i39_.gClauses), .sl (List.map cS i39_.gOpen)] []), (4, .cells [.sl (List.map GClause.c []), .sl (List.map cS [])] [(0, .app 70), (1, .app 9)]), (5, .cells [.sl (List.map GClause.c []), .sl (List.map cS i39_.gOpen)] [(0, .app 70), (1, .app 9)])], []⟩ _ (by kernel_rfl) .nil ?_
  obtain ⟨out1, h38, h⟩ := obind h
  refine Wc.lastJ (fun st => ∃ (i43_ : GDb), out1 = .done i43_ ∧ st = ⟨[(4, (.ptr 4 0, [])), (5, (.ptr 5 0, []))], [(4, .cells [.sl (List.map GClause.c []), .sl (List.map cS [])] [(0, .app 70), (1, .app 9)]), (5, .cells [.sl (List.map GClause.c i43_.gClauses), .sl (List.map cS i43_.gOpen)] [(0, .app 70), (1, .app 9)])], []⟩) ?_ ?_
  · refine Wc.block ?_
    refine Wc.loop (fun m st => ∃ (b41_ : Int) (i42_ : GDb), st = ⟨[(1, (.v (.str g40_), [])), (2, (.ptr 2 0, [])), (4, (.ptr 4 0, [])), (5, (.ptr 5 0, [])), (6, (.v (.int .i64 b41_), []))], [(2, .cells [.sl (List.map GClause.c i39_.gClauses), .sl (List.map cS i39_.gOpen)] []), (4, .cells [.sl (List.map GClause.c []), .sl (List.map cS [])] [(0, .app 70), (1, .app 9)]), (5, .cells [.sl (List.map GClause.c i42_.gClauses), .sl (List.map cS i42_.gOpen)] [(0, .app 70), (1, .app 9)])], []⟩ ∧ pspec_l17WipedRaw_L1 k i39_ g40_ m b41_ i42_ = some out1) ?_ k ⟨_, _, rfl, h38⟩
    rintro m st ⟨b41_, i42_, rfl, h38⟩
    cases m with
    | zero => exact (onone h38).elim
    | succ m =>
      refine Wc.seq ?_
      refine Wc.seq ?_
      refine Wc.region [{}, {}, {}, { v := some (.int .i64 (i39_.gClauses.length : Int)) }] [] [1, 2, 4, 5, 6, 16] [2, 4, 5] [] ⟨[(1, (.v (.str g40_), [])), (2, (.ptr 2 0, [])), (4, (.ptr 4 0, [])), (5, (.ptr 5 0, [])), (6, (.v (.int .i64 b41_), [])), (16, (.v (.bool (decide (b41_ < (i39_.gClauses.length : Int)))), []))], [(2, .cells [.sl (List.map GClause.c i39_.gClauses), .sl (List.map cS i39_.gOpen)] []), (4, .cells [.sl (List.map GClause.c []), .sl (List.map cS [])] [(0, .app 70), (1, .app 9)]), (5, .cells [.sl (List.map GClause.c i42_.gClauses), .sl (List.map cS i42_.gOpen)] [(0, .app 70), (1, .app 9)])], []⟩ _ (by kernel_rfl) (.cons (len_obl GClause.c i39_.gClauses) .nil) ?_
      rcases oif h38 with ⟨h39, h38⟩ | ⟨h39, h38⟩
      · refine Wc.condT h39 (by kernel_rfl) ?_
        refine Wc.fix (st' := ⟨[(1, (.v (.str g40_), [])), (2, (.ptr 2 0, [])), (4, (.ptr 4 0, [])), (5, (.ptr 5 0, [])), (6, (.v (.int .i64 b41_), []))], [(2, .cells [.sl (List.map GClause.c i39_.gClauses), .sl (List.map cS i39_.gOpen)] []), (4, .cells [.sl (List.map GClause.c []), .sl (List.map cS [])] [(0, .app 70), (1, .app 9)]), (5, .cells [.sl (List.map GClause.c i42_.gClauses), .sl (List.map cS i42_.gOpen)] [(0, .app 70), (1, .app 9)])], []⟩) [] [1, 2, 4, 5, 6] [2, 4, 5] [] (by kernel_rfl) ?_
        refine Wc.skip ?_
        refine Wc.seq ?_
        refine Wc.block ?_
        refine Wc.seq ?_
        obtain ⟨d44_, h40, h38⟩ := obind h38
        refine Wc.region [{}, {}, {}, { v := some (.vptr [.int .i64 d44_.gHead.gKind, .str d44_.gHead.gName, .int .i64 d44_.gHead.gNum, .sl (List.map GTerm.c d44_.gHead.gKids), .int .i64 d44_.gBody.gKind, .str d44_.gBody.gName, .int .i64 d44_.gBody.gNum, .sl (List.map GTerm.c d44_.gBody.gKids), .str d44_.gFile]) }] [] [1, 2, 4, 5, 6, 26] [2, 4, 5] [] ⟨[(1, (.v (.str g40_), [])), (2, (.ptr 2 0, [])), (4, (.ptr 4 0, [])), (5, (.ptr 5 0, [])), (6, (.v (.int .i64 b41_), [])), (26, (.v (.bool (!(sEq d44_.gFile g40_))), []))], [(2, .cells [.sl (List.map GClause.c i39_.gClauses), .sl (List.map cS i39_.gOpen)] []), (4, .cells [.sl (List.map GClause.c []), .sl (List.map cS [])] [(0, .app 70), (1, .app 9)]), (5, .cells [.sl (List.map GClause.c i42_.gClauses), .sl (List.map cS i42_.gOpen)] [(0, .app 70), (1, .app 9)])], []⟩ _ (by kernel_rfl) (.cons (at_obl (c := GClause.c) (GClause.c_eq d44_) GClause.c_len h40) (.cons (len_ok 1 [.str d44_.gFile]) .nil)) ?_
        rcases oif h38 with ⟨h41, h38⟩ | ⟨h41, h38⟩
        · refine Wc.condT h41 (by kernel_rfl) ?_
          obtain ⟨d45_, h42, h38⟩ := obind h38
          obtain ⟨h43, h38⟩ := oguard h38
          refine Wc.draw hmix [{}, { md := 1 }, {}, {}, {}, { v := some (.vptr [.int .i64 d45_.gHead.gKind, .str d45_.gHead.gName, .int .i64 d45_.gHead.gNum, .sl (List.map GTerm.c d45_.gHead.gKids), .int .i64 d45_.gBody.gKind, .str d45_.gBody.gName, .int .i64 d45_.gBody.gNum, .sl (List.map GTerm.c d45_.gBody.gKids), .str d45_.gFile]) }, {}, { c := some (List.map GClause.c [d45_]) }, { c := some (List.map GClause.c (i42_.gClauses ++ [d45_])), tk := [28] }, {}, { tk := [35] }] [.so 5] [1, 2, 4, 5, 6] [2, 4, 5] [] ⟨[(1, (.v (.str g40_), [])), (2, (.ptr 2 0, [])), (4, (.ptr 4 0, [])), (5, (.ptr 5 0, [])), (6, (.v (.int .i64 b41_), []))], [(2, .cells [.sl (List.map GClause.c i39_.gClauses), .sl (List.map cS i39_.gOpen)] []), (4, .cells [.sl (List.map GClause.c []), .sl (List.map cS [])] [(0, .app 70), (1, .app 9)]), (5, .cells [.sl (List.map GClause.c (i42_.gClauses ++ [d45_])), .sl (List.map cS i42_.gOpen)] [(0, .app 70), (1, .app 9)])], []⟩ _ (by kernel_rfl) (fun X => by kernel_rfl) (.cons (at_obl (c := GClause.c) (GClause.c_eq d45_) GClause.c_len h42) (.cons (len_ok 9 [.int .i64 d45_.gHead.gKind, .str d45_.gHead.gName, .int .i64 d45_.gHead.gNum, .sl (List.map GTerm.c d45_.gHead.gKids), .int .i64 d45_.gBody.gKind, .str d45_.gBody.gName, .int .i64 d45_.gBody.gNum, .sl (List.map GTerm.c d45_.gBody.gKids), .str d45_.gFile]) (.cons (cl_cons (c := GClause.c) (x := d45_) (GClause.c_eq d45_) (cl_nil GClause.c)) (.cons (app_re2 GClause.c i42_.gClauses [d45_]) (.cons (app_leaf (c := GClause.c) (ys := [d45_]) GClause.c_leaf) (.cons (app_obl2 (c := GClause.c) (xs := i42_.gClauses) (ys := [d45_]) GClause.c_len h43) .nil)))))) ?_
          refine Wc.region [] [] [1, 2, 4, 5, 6] [2, 4, 5] [] ⟨[(1, (.v (.str g40_), [])), (2, (.ptr 2 0, [])), (4, (.ptr 4 0, [])), (5, (.ptr 5 0, [])), (6, (.v (.int .i64 (wr.i64 (b41_ + 1))), []))], [(2, .cells [.sl (List.map GClause.c i39_.gClauses), .sl (List.map cS i39_.gOpen)] []), (4, .cells [.sl (List.map GClause.c []), .sl (List.map cS [])] [(0, .app 70), (1, .app 9)]), (5, .cells [.sl (List.map GClause.c (i42_.gClauses ++ [d45_])), .sl (List.map cS i42_.gOpen)] [(0, .app 70), (1, .app 9)])], []⟩ _ (by kernel_rfl) .nil ?_
          exact ⟨_, Nat.lt_succ_self _, _, _, rfl, h38⟩
        · refine Wc.condF h41 (by kernel_rfl) ?_
          refine Wc.fix (st' := ⟨[(1, (.v (.str g40_), [])), (2, (.ptr 2 0, [])), (4, (.ptr 4 0, [])), (5, (.ptr 5 0, [])), (6, (.v (.int .i64 b41_), []))], [(2, .cells [.sl (List.map GClause.c i39_.gClauses), .sl (List.map cS i39_.gOpen)] []), (4, .cells [.sl (List.map GClause.c []), .sl (List.map cS [])] [(0, .app 70), (1, .app 9)]), (5, .cells [.sl (List.map GClause.c i42_.gClauses), .sl (List.map cS i42_.gOpen)] [(0, .app 70), (1, .app 9)])], []⟩) [] [1, 2, 4, 5, 6] [2, 4, 5] [] (by kernel_rfl) ?_
          refine Wc.skip ?_
          refine Wc.region [] [] [1, 2, 4, 5, 6] [2, 4, 5] [] ⟨[(1, (.v (.str g40_), [])), (2, (.ptr 2 0, [])), (4, (.ptr 4 0, [])), (5, (.ptr 5 0, [])), (6, (.v (.int .i64 (wr.i64 (b41_ + 1))), []))], [(2, .cells [.sl (List.map GClause.c i39_.gClauses), .sl (List.map cS i39_.gOpen)] []), (4, .cells [.sl (List.map GClause.c []), .sl (List.map cS [])] [(0, .app 70), (1, .app 9)]), (5, .cells [.sl (List.map GClause.c i42_.gClauses), .sl (List.map cS i42_.gOpen)] [(0, .app 70), (1, .app 9)])], []⟩ _ (by kernel_rfl) .nil ?_
          exact ⟨_, Nat.lt_succ_self _, _, _, rfl, h38⟩
      · refine Wc.condF h39 (by kernel_rfl) ?_
        refine Wc.fix (st' := ⟨[(4, (.ptr 4 0, [])), (5, (.ptr 5 0, []))], [(4, .cells [.sl (List.map GClause.c []), .sl (List.map cS [])] [(0, .app 70), (1, .app 9)]), (5, .cells [.sl (List.map GClause.c i42_.gClauses), .sl (List.map cS i42_.gOpen)] [(0, .app 70), (1, .app 9)])], []⟩) [] [4, 5] [4, 5] [] (by kernel_rfl) ?_
        refine Wc.exit ?_
        obtain rfl := Option.some.inj h38
        exact ⟨_, rfl, rfl⟩
  · rintro st ⟨i43_, rfl, rfl⟩
    refine Wc.seq ?_
    refine Wc.region [{ md := 1 }, { tk := [37] }] [] [4] [4] [] ⟨[(4, (.ptr 4 0, []))], [(4, .cells [.sl (List.map GClause.c i43_.gClauses), .sl (List.map cS i43_.gOpen)] [(0, .app 70), (1, .app 9)])], []⟩ _ (by kernel_rfl) .nil ?_
    refine Wc.ret ?_
    obtain rfl := Option.some.inj h
    exact ⟨.inl rfl, by kernel_rfl, by kernel_rfl⟩

def pspec_l34Terms_L1 (k : Nat) (rspec_l34Term : GTerm → Option GTerm) (rspec_l34Terms : (List GTerm) → Option (List GTerm)) (a64_ : List GTerm) : Nat → (List GTerm) → Int → Option (Out (List GTerm) (List GTerm))
  | 0, _, _ => none
  | m + 1, a65_, b66_ =>
    if (decide (b66_ < (a64_.length : Int))) = true then
      (at' a64_ b66_).bind fun c68_ =>
      (rspec_l34Term c68_).bind fun c69_ =>
      if a65_.length + [c69_].length ≤ 1073741824 then
        pspec_l34Terms_L1 k rspec_l34Term rspec_l34Terms a64_ m (a65_ ++ [c69_]) (wr.i64 (b66_ + 1))
      else none
    else
      some (.done a65_)
mutual
/-- spec.l34Term -/
def pspec_l34Term : Nat → GTerm → Option GTerm
  | 0, _ => none
  | k + 1, c62_ =>
    (pspec_l34Terms k c62_.gKids).bind fun j63_ =>
    some (GTerm.mk c62_.gKind c62_.gName c62_.gNum j63_)
/-- spec.l34Terms -/
def pspec_l34Terms : Nat → (List GTerm) → Option (List GTerm)
  | 0, _ => none
  | k + 1, a64_ =>
    (pspec_l34Terms_L1 k (pspec_l34Term k) (pspec_l34Terms k) a64_ k [] 0).bind fun out1 => match out1 with
    | .ret r => some r
    | .done a67_ =>
      some a67_
end
theorem all_pspec_l34Term : ∀ k : Nat, (∀ {c62_ : GTerm} {r : GTerm}, pspec_l34Term k c62_ = some r → FnO Try.prog 68 [.v (.agg [.int .i64 c62_.gKind, .str c62_.gName, .int .i64 c62_.gNum, .sl (List.map GTerm.c c62_.gKids)]) []] (.v (.agg [.int .i64 r.gKind, .str r.gName, .int .i64 r.gNum, .sl (List.map GTerm.c r.gKids)]) [(3, .app 41)]) []) ∧
    (∀ {a64_ : List GTerm} {r : (List GTerm)}, pspec_l34Terms k a64_ = some r → FnO Try.prog 105 [.v (.sl (List.map GTerm.c a64_)) []] (.v (.sl (List.map GTerm.c r)) [(0, .app 41)]) []) := by
  intro k
  induction k with
  | zero =>
    refine ⟨?_, ?_⟩
    · intro c62_ r h
      exact (onone (by rw [pspec_l34Term] at h; exact h)).elim
    · intro a64_ r h
      exact (onone (by rw [pspec_l34Terms] at h; exact h)).elim
  | succ k ih =>
    obtain ⟨ih_pspec_l34Term, ih_pspec_l34Terms⟩ := ih
    refine ⟨?_, ?_⟩
    · intro c62_ r h
      rw [pspec_l34Term] at h
      refine FnO.of Try.func68 (rfl : Try.f68.body = some _) (Nat.le_of_ble_eq_true (by kernel_rfl)) (Nat.le_of_ble_eq_true (by kernel_rfl)) ?_
      intro w0 X0 Fin pv0 pb gt
      refine Wc.seq ?_
      refine Wc.region [] [] [1, 2] [1, 2] [] ⟨[(1, (.ptr 1 0, [])), (2, (.ptr 2 0, []))], [(1, .cells [.int .i64 c62_.gKind, .str c62_.gName, .int .i64 c62_.gNum, .sl (List.map GTerm.c c62_.gKids)] []), (2, .cells [.int .i64 0, .str (bs []), .int .i64 0, .sl (List.map GTerm.c [])] [(3, .app 41)])], []⟩ _ (by kernel_rfl) .nil ?_
      refine Wc.seq ?_
      obtain ⟨j63_, h56, h⟩ := obind h
      refine Wc.region [{}, {}, { r := some (.v (.sl (List.map GTerm.c j63_)) [(0, .app 41)]) }, {}, { tk := [5] }] [] [1, 2] [1, 2] [] ⟨[(1, (.ptr 1 0, [])), (2, (.ptr 2 0, []))], [(1, .cells [.int .i64 c62_.gKind, .str c62_.gName, .int .i64 c62_.gNum, .sl (List.map GTerm.c j63_)] [(3, .app 41)]), (2, .cells [.int .i64 0, .str (bs []), .int .i64 0, .sl (List.map GTerm.c [])] [(3, .app 41)])], []⟩ _ (by kernel_rfl) (.cons (ih_pspec_l34Terms h56) .nil) ?_
      refine Wc.seq ?_
      refine Wc.region [{ md := 1 }, { tk := [7] }] [] [2] [2] [] ⟨[(2, (.ptr 2 0, []))], [(2, .cells [.int .i64 c62_.gKind, .str c62_.gName, .int .i64 c62_.gNum, .sl (List.map GTerm.c j63_)] [(3, .app 41)])], []⟩ _ (by kernel_rfl) .nil ?_
      refine Wc.ret ?_
      obtain rfl := Option.some.inj h
      exact ⟨.inl rfl, by kernel_rfl, by kernel_rfl⟩
    · intro a64_ r h
      rw [pspec_l34Terms] at h
      refine FnO.of Try.func105 (rfl : Try.f105.body = some _) (Nat.le_of_ble_eq_true (by kernel_rfl)) (Nat.le_of_ble_eq_true (by kernel_rfl)) ?_
      intro w0 X0 Fin pv0 pb gt
      refine Wc.seq ?_
      refine Wc.region [] [] [0] [] [] ⟨[(0, (.v (.sl (List.map GTerm.c a64_)), []))], [], []⟩ _ (by kernel_rfl) .nil ?_
      refine Wc.seq ?_
      refine Wc.region [{ c := some (List.map GTerm.c []) }, { tk := [5] }] [] [0, 3] [] [] ⟨[(0, (.v (.sl (List.map GTerm.c a64_)), [])), (3, (.v (.sl (List.map GTerm.c [])), [(0, .app 41)]))], [], []⟩ _ (by kernel_rfl) (.cons (cl_nil GTerm.c) .nil) ?_
      refine Wc.seq ?_
      refine Wc.seq ?_
      refine Wc.region [] [] [0, 3, 4] [] [] ⟨[(0, (.v (.sl (List.map GTerm.c a64_)), [])), (3, (.v (.sl (List.map GTerm.c [])), [(0, .app 41)])), (4, (.v (.int .i64 0), []))], [], []⟩ _ (by kernel_rfl) .nil ?_
      obtain ⟨out1, h57, h⟩ := obind h
      refine Wc.lastJ (fun st => ∃ (a67_ : List GTerm), out1 = .done a67_ ∧ st = ⟨[(3, (.v (.sl (List.map GTerm.c a67_)), [(0, .app 41)]))], [], []⟩) ?_ ?_
      · refine Wc.block ?_
        refine Wc.loop (fun m st => ∃ (a65_ : List GTerm) (b66_ : Int), st = ⟨[(0, (.v (.sl (List.map GTerm.c a64_)), [])), (3, (.v (.sl (List.map GTerm.c a65_)), [(0, .app 41)])), (4, (.v (.int .i64 b66_), []))], [], []⟩ ∧ pspec_l34Terms_L1 k (pspec_l34Term k) (pspec_l34Terms k) a64_ m a65_ b66_ = some out1) ?_ k ⟨_, _, rfl, h57⟩
        rintro m st ⟨a65_, b66_, rfl, h57⟩
        cases m with
        | zero => exact (onone h57).elim
        | succ m =>
          refine Wc.seq ?_
          refine Wc.seq ?_
          refine Wc.region [{}, {}, { v := some (.int .i64 (a64_.length : Int)) }] [] [0, 3, 4, 9] [] [] ⟨[(0, (.v (.sl (List.map GTerm.c a64_)), [])), (3, (.v (.sl (List.map GTerm.c a65_)), [(0, .app 41)])), (4, (.v (.int .i64 b66_), [])), (9, (.v (.bool (decide (b66_ < (a64_.length : Int)))), []))], [], []⟩ _ (by kernel_rfl) (.cons (len_obl GTerm.c a64_) .nil) ?_
          rcases oif h57 with ⟨h58, h57⟩ | ⟨h58, h57⟩
          · refine Wc.condT h58 (by kernel_rfl) ?_
            refine Wc.fix (st' := ⟨[(0, (.v (.sl (List.map GTerm.c a64_)), [])), (3, (.v (.sl (List.map GTerm.c a65_)), [(0, .app 41)])), (4, (.v (.int .i64 b66_), []))], [], []⟩) [] [0, 3, 4] [] [] (by kernel_rfl) ?_
            refine Wc.skip ?_
            refine Wc.seq ?_
            refine Wc.block ?_
            obtain ⟨c68_, h59, h57⟩ := obind h57
            obtain ⟨c69_, h60, h57⟩ := obind h57
            obtain ⟨h61, h57⟩ := oguard h57
            refine Wc.region [{ tk := [3] }, {}, {}, { v := some (.vptr [.int .i64 c68_.gKind, .str c68_.gName, .int .i64 c68_.gNum, .sl (List.map GTerm.c c68_.gKids)]) }, {}, { r := some (.v (.agg [.int .i64 c69_.gKind, .str c69_.gName, .int .i64 c69_.gNum, .sl (List.map GTerm.c c69_.gKids)]) [(3, .app 41)]) }, { c := some (List.map GTerm.c [c69_]) }, { c := some (List.map GTerm.c (a65_ ++ [c69_])), tk := [12] }, { tk := [19] }] [] [0, 3, 4] [] [] ⟨[(0, (.v (.sl (List.map GTerm.c a64_)), [])), (3, (.v (.sl (List.map GTerm.c (a65_ ++ [c69_]))), [(0, .app 41)])), (4, (.v (.int .i64 b66_), []))], [], []⟩ _ (by kernel_rfl) (.cons (at_obl (c := GTerm.c) (GTerm.c_eq c68_) GTerm.c_len h59) (.cons (len_ok 4 [.int .i64 c68_.gKind, .str c68_.gName, .int .i64 c68_.gNum, .sl (List.map GTerm.c c68_.gKids)]) (.cons (ih_pspec_l34Term h60) (.cons (cl_cons (c := GTerm.c) (x := c69_) (GTerm.c_eq c69_) (cl_nil GTerm.c)) (.cons (app_re2 GTerm.c a65_ [c69_]) (.cons (app_leaf (c := GTerm.c) (ys := [c69_]) GTerm.c_leaf) (.cons (app_obl2 (c := GTerm.c) (xs := a65_) (ys := [c69_]) GTerm.c_len h61) .nil))))))) ?_
            refine Wc.region [] [] [0, 3, 4] [] [] ⟨[(0, (.v (.sl (List.map GTerm.c a64_)), [])), (3, (.v (.sl (List.map GTerm.c (a65_ ++ [c69_]))), [(0, .app 41)])), (4, (.v (.int .i64 (wr.i64 (b66_ + 1))), []))], [], []⟩ _ (by kernel_rfl) .nil ?_
            exact ⟨_, Nat.lt_succ_self _, _, _, rfl, h57⟩
          · refine Wc.condF h58 (by kernel_rfl) ?_
            refine Wc.fix (st' := ⟨[(3, (.v (.sl (List.map GTerm.c a65_)), [(0, .app 41)]))], [], []⟩) [] [3] [] [] (by kernel_rfl) ?_
            refine Wc.exit ?_
            obtain rfl := Option.some.inj h57
            exact ⟨_, rfl, rfl⟩
      · rintro st ⟨a67_, rfl, rfl⟩
        refine Wc.seq ?_
        refine Wc.region [{ tk := [3] }, { tk := [20] }] [] [2] [] [] ⟨[(2, (.v (.sl (List.map GTerm.c a67_)), [(0, .app 41)]))], [], []⟩ _ (by kernel_rfl) .nil ?_
        refine Wc.ret ?_
        obtain rfl := Option.some.inj h
        exact ⟨.inl rfl, by kernel_rfl, by kernel_rfl⟩
theorem cspec_l34Term {k : Nat} {c62_ : GTerm} {r : GTerm} (h : pspec_l34Term k c62_ = some r) : FnO Try.prog 68 [.v (.agg [.int .i64 c62_.gKind, .str c62_.gName, .int .i64 c62_.gNum, .sl (List.map GTerm.c c62_.gKids)]) []] (.v (.agg [.int .i64 r.gKind, .str r.gName, .int .i64 r.gNum, .sl (List.map GTerm.c r.gKids)]) [(3, .app 41)]) [] := (all_pspec_l34Term k).1 h
theorem cspec_l34Terms {k : Nat} {a64_ : List GTerm} {r : (List GTerm)} (h : pspec_l34Terms k a64_ = some r) : FnO Try.prog 105 [.v (.sl (List.map GTerm.c a64_)) []] (.v (.sl (List.map GTerm.c r)) [(0, .app 41)]) [] := (all_pspec_l34Term k).2 h

/-- spec.l34Clause -/
def pspec_l34Clause (k : Nat) (d73_ : GClause) : Option GClause :=
  (pspec_l34Term k d73_.gHead).bind fun c74_ =>
  (pspec_l34Term k d73_.gBody).bind fun c75_ =>
  some (GClause.mk c74_ c75_ d73_.gFile)
theorem cspec_l34Clause {k : Nat} {d73_ : GClause} {r : GClause} (h : pspec_l34Clause k d73_ = some r) : FnO Try.prog 115 [.v (.agg [.int .i64 d73_.gHead.gKind, .str d73_.gHead.gName, .int .i64 d73_.gHead.gNum, .sl (List.map GTerm.c d73_.gHead.gKids), .int .i64 d73_.gBody.gKind, .str d73_.gBody.gName, .int .i64 d73_.gBody.gNum, .sl (List.map GTerm.c d73_.gBody.gKids), .str d73_.gFile]) []] (.v (.agg [.int .i64 r.gHead.gKind, .str r.gHead.gName, .int .i64 r.gHead.gNum, .sl (List.map GTerm.c r.gHead.gKids), .int .i64 r.gBody.gKind, .str r.gBody.gName, .int .i64 r.gBody.gNum, .sl (List.map GTerm.c r.gBody.gKids), .str r.gFile]) [(3, .app 41), (7, .app 41)]) [] := by
  refine FnO.of Try.func115 (rfl : Try.f115.body = some _) (Nat.le_of_ble_eq_true (by kernel_rfl)) (Nat.le_of_ble_eq_true (by kernel_rfl)) ?_
  intro w0 X0 Fin pv0 pb gt
  unfold pspec_l34Clause at h
  refine Wc.seq ?_
  refine Wc.region [] [] [1, 2] [1, 2] [] ⟨[(1, (.ptr 1 0, [])), (2, (.ptr 2 0, []))], [(1, .cells [.int .i64 d73_.gHead.gKind, .str d73_.gHead.gName, .int .i64 d73_.gHead.gNum, .sl (List.map GTerm.c d73_.gHead.gKids), .int .i64 d73_.gBody.gKind, .str d73_.gBody.gName, .int .i64 d73_.gBody.gNum, .sl (List.map GTerm.c d73_.gBody.gKids), .str d73_.gFile] []), (2, .cells [.int .i64 0, .str (bs []), .int .i64 0, .sl (List.map GTerm.c []), .int .i64 0, .str (bs []), .int .i64 0, .sl (List.map GTerm.c []), .str (bs [])] [(3, .app 41), (7, .app 41)])], []⟩ _ (by kernel_rfl) .nil ?_
  refine Wc.seq ?_
  obtain ⟨c74_, h64, h⟩ := obind h
  refine Wc.region [{}, {}, { r := some (.v (.agg [.int .i64 c74_.gKind, .str c74_.gName, .int .i64 c74_.gNum, .sl (List.map GTerm.c c74_.gKids)]) [(3, .app 41)]) }, {}, { tk := [5] }] [] [1, 2] [1, 2] [] ⟨[(1, (.ptr 1 0, [])), (2, (.ptr 2 0, []))], [(1, .cells [.int .i64 c74_.gKind, .str c74_.gName, .int .i64 c74_.gNum, .sl (List.map GTerm.c c74_.gKids), .int .i64 d73_.gBody.gKind, .str d73_.gBody.gName, .int .i64 d73_.gBody.gNum, .sl (List.map GTerm.c d73_.gBody.gKids), .str d73_.gFile] [(3, .app 41)]), (2, .cells [.int .i64 0, .str (bs []), .int .i64 0, .sl (List.map GTerm.c []), .int .i64 0, .str (bs []), .int .i64 0, .sl (List.map GTerm.c []), .str (bs [])] [(3, .app 41), (7, .app 41)])], []⟩ _ (by kernel_rfl) (.cons (cspec_l34Term h64) .nil) ?_
  refine Wc.seq ?_
  obtain ⟨c75_, h65, h⟩ := obind h
  refine Wc.region [{}, {}, { r := some (.v (.agg [.int .i64 c75_.gKind, .str c75_.gName, .int .i64 c75_.gNum, .sl (List.map GTerm.c c75_.gKids)]) [(3, .app 41)]) }, {}, { tk := [9] }] [] [1, 2] [1, 2] [] ⟨[(1, (.ptr 1 0, [])), (2, (.ptr 2 0, []))], [(1, .cells [.int .i64 c74_.gKind, .str c74_.gName, .int .i64 c74_.gNum, .sl (List.map GTerm.c c74_.gKids), .int .i64 c75_.gKind, .str c75_.gName, .int .i64 c75_.gNum, .sl (List.map GTerm.c c75_.gKids), .str d73_.gFile] [(3, .app 41), (7, .app 41)]), (2, .cells [.int .i64 0, .str (bs []), .int .i64 0, .sl (List.map GTerm.c []), .int .i64 0, .str (bs []), .int .i64 0, .sl (List.map GTerm.c []), .str (bs [])] [(3, .app 41), (7, .app 41)])], []⟩ _ (by kernel_rfl) (.cons (cspec_l34Term h65) .nil) ?_
  refine Wc.seq ?_
  refine Wc.region [{ md := 1 }, { tk := [11] }] [] [2] [2] [] ⟨[(2, (.ptr 2 0, []))], [(2, .cells [.int .i64 c74_.gKind, .str c74_.gName, .int .i64 c74_.gNum, .sl (List.map GTerm.c c74_.gKids), .int .i64 c75_.gKind, .str c75_.gName, .int .i64 c75_.gNum, .sl (List.map GTerm.c c75_.gKids), .str d73_.gFile] [(3, .app 41), (7, .app 41)])], []⟩ _ (by kernel_rfl) .nil ?_
  refine Wc.ret ?_
  obtain rfl := Option.some.inj h
  exact ⟨.inl rfl, by kernel_rfl, by kernel_rfl⟩

def pspec_l34Clauses_L1 (k : Nat) (e82_ : List GClause) : Nat → (List GClause) → Int → Option (Out (List GClause) (List GClause))
  | 0, _, _ => none
  | m + 1, e83_, b84_ =>
    if (decide (b84_ < (e82_.length : Int))) = true then
      (at' e82_ b84_).bind fun d86_ =>
      (pspec_l34Clause k d86_).bind fun d87_ =>
      if e83_.length + [d87_].length ≤ 1073741824 then
        pspec_l34Clauses_L1 k e82_ m (e83_ ++ [d87_]) (wr.i64 (b84_ + 1))
      else none
    else
      some (.done e83_)
/-- spec.l34Clauses -/
def pspec_l34Clauses (k : Nat) (e82_ : List GClause) : Option (List GClause) :=
  (pspec_l34Clauses_L1 k e82_ k [] 0).bind fun out1 => match out1 with
  | .ret r => some r
  | .done e85_ =>
    some e85_
theorem cspec_l34Clauses {k : Nat} {e82_ : List GClause} {r : (List GClause)} (h : pspec_l34Clauses k e82_ = some r) : FnO Try.prog 82 [.v (.sl (List.map GClause.c e82_)) []] (.v (.sl (List.map GClause.c r)) [(0, .app 70)]) [] := by
  refine FnO.of Try.func82 (rfl : Try.f82.body = some _) (Nat.le_of_ble_eq_true (by kernel_rfl)) (Nat.le_of_ble_eq_true (by kernel_rfl)) ?_
  intro w0 X0 Fin pv0 pb gt
  unfold pspec_l34Clauses at h
  refine Wc.seq ?_
  refine Wc.region [] [] [0] [] [] ⟨[(0, (.v (.sl (List.map GClause.c e82_)), []))], [], []⟩ _ (by kernel_rfl) .nil ?_
  refine Wc.seq ?_
  refine Wc.region [{ c := some (List.map GClause.c []) }, { tk := [5] }] [] [0, 3] [] [] ⟨[(0, (.v (.sl (List.map GClause.c e82_)), [])), (3, (.v (.sl (List.map GClause.c [])), [(0, .app 70)]))], [], []⟩ _ (by kernel_rfl) (.cons (cl_nil GClause.c) .nil) ?_
  refine Wc.seq ?_
  refine Wc.seq ?_
  refine Wc.region [] [] [0, 3, 4] [] [] ⟨[(0, (.v (.sl (List.map GClause.c e82_)), [])), (3, (.v (.sl (List.map GClause.c [])), [(0, .app 70)])), (4, (.v (.int .i64 0), []))], [], []⟩ _ (by kernel_rfl) .nil ?_
  obtain ⟨out1, h71, h⟩ := obind h
  refine Wc.lastJ (fun st => ∃ (e85_ : List GClause), out1 = .done e85_ ∧ st = ⟨[(3, (.v (.sl (List.map GClause.c e85_)), [(0, .app 70)]))], [], []⟩) ?_ ?_
  · refine Wc.block ?_
    refine Wc.loop (fun m st => ∃ (e83_ : List GClause) (b84_ : Int), st = ⟨[(0, (.v (.sl (List.map GClause.c e82_)), [])), (3, (.v (.sl (List.map GClause.c e83_)), [(0, .app 70)])), (4, (.v (.int .i64 b84_), []))], [], []⟩ ∧ pspec_l34Clauses_L1 k e82_ m e83_ b84_ = some out1) ?_ k ⟨_, _, rfl, h71⟩
    rintro m st ⟨e83_, b84_, rfl, h71⟩
    cases m with
    | zero => exact (onone h71).elim
    | succ m =>
      refine Wc.seq ?_
      refine Wc.seq ?_
      refine Wc.region [{}, {}, { v := some (.int .i64 (e82_.length : Int)) }] [] [0, 3, 4, 9] [] [] ⟨[(0, (.v (.sl (List.map GClause.c e82_)), [])), (3, (.v (.sl (List.map GClause.c e83_)), [(0, .app 70)])), (4, (.v (.int .i64 b84_), [])), (9, (.v (.bool (decide (b84_ < (e82_.length : Int)))), []))], [], []⟩ _ (by kernel_rfl) (.cons (len_obl GClause.c e82_) .nil) ?_
      rcases oif h71 with ⟨h72, h71⟩ | ⟨h72, h71⟩
      · refine Wc.condT h72 (by kernel_rfl) ?_
        refine Wc.fix (st' := ⟨[(0, (.v (.sl (List.map GClause.c e82_)), [])), (3, (.v (.sl (List.map GClause.c e83_)), [(0, .app 70)])), (4, (.v (.int .i64 b84_), []))], [], []⟩) [] [0, 3, 4] [] [] (by kernel_rfl) ?_
        refine Wc.skip ?_
        refine Wc.seq ?_
        refine Wc.block ?_
        obtain ⟨d86_, h73, h71⟩ := obind h71
        obtain ⟨d87_, h74, h71⟩ := obind h71
        obtain ⟨h75, h71⟩ := oguard h71
        refine Wc.region [{ tk := [3] }, {}, {}, { v := some (.vptr [.int .i64 d86_.gHead.gKind, .str d86_.gHead.gName, .int .i64 d86_.gHead.gNum, .sl (List.map GTerm.c d86_.gHead.gKids), .int .i64 d86_.gBody.gKind, .str d86_.gBody.gName, .int .i64 d86_.gBody.gNum, .sl (List.map GTerm.c d86_.gBody.gKids), .str d86_.gFile]) }, {}, { r := some (.v (.agg [.int .i64 d87_.gHead.gKind, .str d87_.gHead.gName, .int .i64 d87_.gHead.gNum, .sl (List.map GTerm.c d87_.gHead.gKids), .int .i64 d87_.gBody.gKind, .str d87_.gBody.gName, .int .i64 d87_.gBody.gNum, .sl (List.map GTerm.c d87_.gBody.gKids), .str d87_.gFile]) [(3, .app 41), (7, .app 41)]) }, { c := some (List.map GClause.c [d87_]) }, { c := some (List.map GClause.c (e83_ ++ [d87_])), tk := [12] }, { tk := [19] }] [] [0, 3, 4] [] [] ⟨[(0, (.v (.sl (List.map GClause.c e82_)), [])), (3, (.v (.sl (List.map GClause.c (e83_ ++ [d87_]))), [(0, .app 70)])), (4, (.v (.int .i64 b84_), []))], [], []⟩ _ (by kernel_rfl) (.cons (at_obl (c := GClause.c) (GClause.c_eq d86_) GClause.c_len h73) (.cons (len_ok 9 [.int .i64 d86_.gHead.gKind, .str d86_.gHead.gName, .int .i64 d86_.gHead.gNum, .sl (List.map GTerm.c d86_.gHead.gKids), .int .i64 d86_.gBody.gKind, .str d86_.gBody.gName, .int .i64 d86_.gBody.gNum, .sl (List.map GTerm.c d86_.gBody.gKids), .str d86_.gFile]) (.cons (cspec_l34Clause h74) (.cons (cl_cons (c := GClause.c) (x := d87_) (GClause.c_eq d87_) (cl_nil GClause.c)) (.cons (app_re2 GClause.c e83_ [d87_]) (.cons (app_leaf (c := GClause.c) (ys := [d87_]) GClause.c_leaf) (.cons (app_obl2 (c := GClause.c) (xs := e83_) (ys := [d87_]) GClause.c_len h75) .nil))))))) ?_
        refine Wc.region [] [] [0, 3, 4] [] [] ⟨[(0, (.v (.sl (List.map GClause.c e82_)), [])), (3, (.v (.sl (List.map GClause.c (e83_ ++ [d87_]))), [(0, .app 70)])), (4, (.v (.int .i64 (wr.i64 (b84_ + 1))), []))], [], []⟩ _ (by kernel_rfl) .nil ?_
        exact ⟨_, Nat.lt_succ_self _, _, _, rfl, h71⟩
      · refine Wc.condF h72 (by kernel_rfl) ?_
        refine Wc.fix (st' := ⟨[(3, (.v (.sl (List.map GClause.c e83_)), [(0, .app 70)]))], [], []⟩) [] [3] [] [] (by kernel_rfl) ?_
        refine Wc.exit ?_
        obtain rfl := Option.some.inj h71
        exact ⟨_, rfl, rfl⟩
  · rintro st ⟨e85_, rfl, rfl⟩
    refine Wc.seq ?_
    refine Wc.region [{ tk := [3] }, { tk := [20] }] [] [2] [] [] ⟨[(2, (.v (.sl (List.map GClause.c e85_)), [(0, .app 70)]))], [], []⟩ _ (by kernel_rfl) .nil ?_
    refine Wc.ret ?_
    obtain rfl := Option.some.inj h
    exact ⟨.inl rfl, by kernel_rfl, by kernel_rfl⟩

/-- spec.l34Strings -/
def pspec_l34Strings (k : Nat) (f89_ : List ByteArray) : Option (List ByteArray) :=
  if ([] : List ByteArray).length + f89_.length ≤ 1073741824 then
    some f89_
  else none
theorem cspec_l34Strings {k : Nat} {f89_ : List ByteArray} {r : (List ByteArray)} (h : pspec_l34Strings k f89_ = some r) : FnO Try.prog 83 [.v (.sl (List.map cS f89_)) []] (.v (.sl (List.map cS r)) [(0, .app 9)]) [] := by
  refine FnO.of Try.func83 (rfl : Try.f83.body = some _) (Nat.le_of_ble_eq_true (by kernel_rfl)) (Nat.le_of_ble_eq_true (by kernel_rfl)) ?_
  intro w0 X0 Fin pv0 pb gt
  unfold pspec_l34Strings at h
  refine Wc.seq ?_
  refine Wc.region [] [] [0] [] [] ⟨[(0, (.v (.sl (List.map cS f89_)), []))], [], []⟩ _ (by kernel_rfl) .nil ?_
  refine Wc.seq ?_
  obtain ⟨h77, h⟩ := oguard h
  refine Wc.region [{ c := some (List.map cS []) }, {}, { c := some (List.map cS f89_), tk := [3] }, { tk := [5] }] [] [2] [] [] ⟨[(2, (.v (.sl (List.map cS f89_)), [(0, .app 9)]))], [], []⟩ _ (by kernel_rfl) (.cons (cl_nil cS) (.cons (app_re0 cS f89_) (.cons (app_leaf (c := cS) (ys := f89_) cS_leaf) (.cons (app_obl2 (c := cS) (xs := []) (ys := f89_) cS_len h77) .nil)))) ?_
  refine Wc.ret ?_
  obtain rfl := Option.some.inj h
  exact ⟨.inl rfl, by kernel_rfl, by kernel_rfl⟩

/-- spec.l34Db -/
def pspec_l34Db (k : Nat) (i93_ : GDb) : Option GDb :=
  (pspec_l34Clauses k i93_.gClauses).bind fun l94_ =>
  (pspec_l34Strings k i93_.gOpen).bind fun m95_ =>
  some (GDb.mk l94_ m95_)
theorem cspec_l34Db {k : Nat} {i93_ : GDb} {r : GDb} (h : pspec_l34Db k i93_ = some r) : FnO Try.prog 38 [.v (.agg [.sl (List.map GClause.c i93_.gClauses), .sl (List.map cS i93_.gOpen)]) []] (.v (.agg [.sl (List.map GClause.c r.gClauses), .sl (List.map cS r.gOpen)]) [(0, .app 70), (1, .app 9)]) [] := by
  refine FnO.of Try.func38 (rfl : Try.f38.body = some _) (Nat.le_of_ble_eq_true (by kernel_rfl)) (Nat.le_of_ble_eq_true (by kernel_rfl)) ?_
  intro w0 X0 Fin pv0 pb gt
  unfold pspec_l34Db at h
  refine Wc.seq ?_
  refine Wc.region [] [] [1, 2] [1, 2] [] ⟨[(1, (.ptr 1 0, [])), (2, (.ptr 2 0, []))], [(1, .cells [.sl (List.map GClause.c i93_.gClauses), .sl (List.map cS i93_.gOpen)] []), (2, .cells [.sl (List.map GClause.c []), .sl (List.map cS [])] [(0, .app 70), (1, .app 9)])], []⟩ _ (by kernel_rfl) .nil ?_
  refine Wc.seq ?_
  obtain ⟨l94_, h80, h⟩ := obind h
  refine Wc.region [{}, {}, { r := some (.v (.sl (List.map GClause.c l94_)) [(0, .app 70)]) }, {}, { tk := [5] }] [] [1, 2] [1, 2] [] ⟨[(1, (.ptr 1 0, [])), (2, (.ptr 2 0, []))], [(1, .cells [.sl (List.map GClause.c l94_), .sl (List.map cS i93_.gOpen)] [(0, .app 70)]), (2, .cells [.sl (List.map GClause.c []), .sl (List.map cS [])] [(0, .app 70), (1, .app 9)])], []⟩ _ (by kernel_rfl) (.cons (cspec_l34Clauses h80) .nil) ?_
  refine Wc.seq ?_
  obtain ⟨m95_, h81, h⟩ := obind h
  refine Wc.region [{}, {}, { r := some (.v (.sl (List.map cS m95_)) [(0, .app 9)]) }, {}, { tk := [9] }] [] [1, 2] [1, 2] [] ⟨[(1, (.ptr 1 0, [])), (2, (.ptr 2 0, []))], [(1, .cells [.sl (List.map GClause.c l94_), .sl (List.map cS m95_)] [(0, .app 70), (1, .app 9)]), (2, .cells [.sl (List.map GClause.c []), .sl (List.map cS [])] [(0, .app 70), (1, .app 9)])], []⟩ _ (by kernel_rfl) (.cons (cspec_l34Strings h81) .nil) ?_
  refine Wc.seq ?_
  refine Wc.region [{ md := 1 }, { tk := [11] }] [] [2] [2] [] ⟨[(2, (.ptr 2 0, []))], [(2, .cells [.sl (List.map GClause.c l94_), .sl (List.map cS m95_)] [(0, .app 70), (1, .app 9)])], []⟩ _ (by kernel_rfl) .nil ?_
  refine Wc.ret ?_
  obtain rfl := Option.some.inj h
  exact ⟨.inl rfl, by kernel_rfl, by kernel_rfl⟩

/-- spec.Wiped -/
def pspec_Wiped (k : Nat) (i100_ : GDb) (g101_ : ByteArray) : Option GDb :=
  (pspec_l17WipedRaw k i100_ g101_).bind fun i102_ =>
  (pspec_l34Db k i102_).bind fun i103_ =>
  some i103_
theorem cspec_Wiped {k : Nat} {i100_ : GDb} {g101_ : ByteArray} {r : GDb} (h : pspec_Wiped k i100_ g101_ = some r) : FnO Try.prog 7 [.v (.agg [.sl (List.map GClause.c i100_.gClauses), .sl (List.map cS i100_.gOpen)]) [], .v (.str g101_) []] (.v (.agg [.sl (List.map GClause.c r.gClauses), .sl (List.map cS r.gOpen)]) [(0, .app 70), (1, .app 9)]) [] := by
  refine FnO.of Try.func7 (rfl : Try.f7.body = some _) (Nat.le_of_ble_eq_true (by kernel_rfl)) (Nat.le_of_ble_eq_true (by kernel_rfl)) ?_
  intro w0 X0 Fin pv0 pb gt
  unfold pspec_Wiped at h
  refine Wc.seq ?_
  refine Wc.region [] [] [1, 2, 4] [2, 4] [] ⟨[(1, (.v (.str g101_), [])), (2, (.ptr 2 0, [])), (4, (.ptr 4 0, []))], [(2, .cells [.sl (List.map GClause.c i100_.gClauses), .sl (List.map cS i100_.gOpen)] []), (4, .cells [.sl (List.map GClause.c []), .sl (List.map cS [])] [(0, .app 70), (1, .app 9)])], []⟩ _ (by kernel_rfl) .nil ?_
  refine Wc.seq ?_
  obtain ⟨i102_, h84, h⟩ := obind h
  refine Wc.region [{}, {}, { r := some (.v (.agg [.sl (List.map GClause.c i102_.gClauses), .sl (List.map cS i102_.gOpen)]) [(0, .app 70), (1, .app 9)]) }, {}, { tk := [8] }] [] [4, 5] [4, 5] [] ⟨[(4, (.ptr 4 0, [])), (5, (.ptr 5 0, []))], [(4, .cells [.sl (List.map GClause.c []), .sl (List.map cS [])] [(0, .app 70), (1, .app 9)]), (5, .cells [.sl (List.map GClause.c i102_.gClauses), .sl (List.map cS i102_.gOpen)] [(0, .app 70), (1, .app 9)])], []⟩ _ (by kernel_rfl) (.cons (cspec_l17WipedRaw h84) .nil) ?_
  refine Wc.seq ?_
  obtain ⟨i103_, h85, h⟩ := obind h
  refine Wc.region [{}, { r := some (.v (.agg [.sl (List.map GClause.c i103_.gClauses), .sl (List.map cS i103_.gOpen)]) [(0, .app 70), (1, .app 9)]) }, { tk := [10] }] [] [4] [4] [] ⟨[(4, (.ptr 4 0, []))], [(4, .cells [.sl (List.map GClause.c i103_.gClauses), .sl (List.map cS i103_.gOpen)] [(0, .app 70), (1, .app 9)])], []⟩ _ (by kernel_rfl) (.cons (cspec_l34Db h85) .nil) ?_
  refine Wc.ret ?_
  obtain rfl := Option.some.inj h
  exact ⟨.inl rfl, by kernel_rfl, by kernel_rfl⟩

def plaws_toTermS_L1 (k : Nat) (rlaws_toTerm : GTerm → Option GTerm) (rlaws_toTermS : (List GTerm) → Option (List GTerm)) (a106_ : List GTerm) : Nat → (List GTerm) → Int → Option (Out (List GTerm) (List GTerm))
  | 0, _, _ => none
  | m + 1, a107_, b108_ =>
    if (decide (b108_ < (a106_.length : Int))) = true then
      (at' a106_ b108_).bind fun c110_ =>
      (rlaws_toTerm c110_).bind fun c111_ =>
      (at' a107_ b108_).bind fun c112_ =>
      plaws_toTermS_L1 k rlaws_toTerm rlaws_toTermS a106_ m (a107_.set ((b108_).toNat) c111_) (wr.i64 (b108_ + 1))
    else
      some (.done a107_)
mutual
/-- laws.toTerm -/
def plaws_toTerm : Nat → GTerm → Option GTerm
  | 0, _ => none
  | k + 1, c104_ =>
    (plaws_toTermS k c104_.gKids).bind fun j105_ =>
    some (GTerm.mk c104_.gKind c104_.gName c104_.gNum j105_)
/-- laws.toTermS -/
def plaws_toTermS : Nat → (List GTerm) → Option (List GTerm)
  | 0, _ => none
  | k + 1, a106_ =>
    if 0 ≤ (a106_.length : Int) ∧ (a106_.length : Int) ≤ 1073741824 then
      (plaws_toTermS_L1 k (plaws_toTerm k) (plaws_toTermS k) a106_ k (List.replicate ((a106_.length : Int)).toNat (GTerm.mk 0 (bs []) 0 [])) 0).bind fun out1 => match out1 with
      | .ret r => some r
      | .done a109_ =>
        some a109_
    else none
end
theorem all_plaws_toTerm : ∀ k : Nat, (∀ {c104_ : GTerm} {r : GTerm}, plaws_toTerm k c104_ = some r → FnO Try.prog 116 [.v (.agg [.int .i64 c104_.gKind, .str c104_.gName, .int .i64 c104_.gNum, .sl (List.map GTerm.c c104_.gKids)]) []] (.v (.agg [.int .i64 r.gKind, .str r.gName, .int .i64 r.gNum, .sl (List.map GTerm.c r.gKids)]) []) []) ∧
    (∀ {a106_ : List GTerm} {r : (List GTerm)}, plaws_toTermS k a106_ = some r → FnO Try.prog 132 [.v (.sl (List.map GTerm.c a106_)) []] (.v (.sl (List.map GTerm.c r)) []) []) := by
  intro k
  induction k with
  | zero =>
    refine ⟨?_, ?_⟩
    · intro c104_ r h
      exact (onone (by rw [plaws_toTerm] at h; exact h)).elim
    · intro a106_ r h
      exact (onone (by rw [plaws_toTermS] at h; exact h)).elim
  | succ k ih =>
    obtain ⟨ih_plaws_toTerm, ih_plaws_toTermS⟩ := ih
    refine ⟨?_, ?_⟩
    · intro c104_ r h
      rw [plaws_toTerm] at h
      refine FnO.of Try.func116 (rfl : Try.f116.body = some _) (Nat.le_of_ble_eq_true (by kernel_rfl)) (Nat.le_of_ble_eq_true (by kernel_rfl)) ?_
      intro w0 X0 Fin pv0 pb gt
      refine Wc.seq ?_
      refine Wc.region [] [] [1, 2] [1, 2] [] ⟨[(1, (.ptr 1 0, [])), (2, (.ptr 2 0, []))], [(1, .cells [.int .i64 c104_.gKind, .str c104_.gName, .int .i64 c104_.gNum, .sl (List.map GTerm.c c104_.gKids)] []), (2, .cells [.int .i64 0, .str (bs []), .int .i64 0, .sl (List.map GTerm.c [])] [(3, .app 41)])], []⟩ _ (by kernel_rfl) .nil ?_
      refine Wc.seq ?_
      refine Wc.region [] [] [1, 2, 3] [1, 2, 3] [] ⟨[(1, (.ptr 1 0, [])), (2, (.ptr 2 0, [])), (3, (.ptr 3 0, []))], [(1, .cells [.int .i64 c104_.gKind, .str c104_.gName, .int .i64 c104_.gNum, .sl (List.map GTerm.c c104_.gKids)] []), (2, .cells [.int .i64 0, .str (bs []), .int .i64 0, .sl (List.map GTerm.c [])] [(3, .app 41)]), (3, .cells [.int .i64 0, .str (bs []), .int .i64 0, .sl (List.map GTerm.c [])] [(3, .app 41)])], []⟩ _ (by kernel_rfl) .nil ?_
      refine Wc.seq ?_
      refine Wc.region [] [] [1, 2, 3] [1, 2, 3] [] ⟨[(1, (.ptr 1 0, [])), (2, (.ptr 2 0, [])), (3, (.ptr 3 0, []))], [(1, .cells [.int .i64 c104_.gKind, .str c104_.gName, .int .i64 c104_.gNum, .sl (List.map GTerm.c c104_.gKids)] []), (2, .cells [.int .i64 0, .str (bs []), .int .i64 0, .sl (List.map GTerm.c [])] [(3, .app 41)]), (3, .cells [.int .i64 c104_.gKind, .str (bs []), .int .i64 0, .sl (List.map GTerm.c [])] [(3, .app 41)])], []⟩ _ (by kernel_rfl) .nil ?_
      refine Wc.seq ?_
      refine Wc.region [] [] [1, 2, 3] [1, 2, 3] [] ⟨[(1, (.ptr 1 0, [])), (2, (.ptr 2 0, [])), (3, (.ptr 3 0, []))], [(1, .cells [.int .i64 c104_.gKind, .str c104_.gName, .int .i64 c104_.gNum, .sl (List.map GTerm.c c104_.gKids)] []), (2, .cells [.int .i64 0, .str (bs []), .int .i64 0, .sl (List.map GTerm.c [])] [(3, .app 41)]), (3, .cells [.int .i64 c104_.gKind, .str c104_.gName, .int .i64 0, .sl (List.map GTerm.c [])] [(3, .app 41)])], []⟩ _ (by kernel_rfl) .nil ?_
      refine Wc.seq ?_
      refine Wc.region [] [] [1, 2, 3] [1, 2, 3] [] ⟨[(1, (.ptr 1 0, [])), (2, (.ptr 2 0, [])), (3, (.ptr 3 0, []))], [(1, .cells [.int .i64 c104_.gKind, .str c104_.gName, .int .i64 c104_.gNum, .sl (List.map GTerm.c c104_.gKids)] []), (2, .cells [.int .i64 0, .str (bs []), .int .i64 0, .sl (List.map GTerm.c [])] [(3, .app 41)]), (3, .cells [.int .i64 c104_.gKind, .str c104_.gName, .int .i64 c104_.gNum, .sl (List.map GTerm.c [])] [(3, .app 41)])], []⟩ _ (by kernel_rfl) .nil ?_
      refine Wc.seq ?_
      obtain ⟨j105_, h86, h⟩ := obind h
      refine Wc.region [{}, {}, { r := some (.v (.sl (List.map GTerm.c j105_)) []) }] [] [2, 3] [2, 3] [] ⟨[(2, (.ptr 2 0, [])), (3, (.ptr 3 0, []))], [(2, .cells [.int .i64 0, .str (bs []), .int .i64 0, .sl (List.map GTerm.c [])] [(3, .app 41)]), (3, .cells [.int .i64 c104_.gKind, .str c104_.gName, .int .i64 c104_.gNum, .sl (List.map GTerm.c j105_)] [])], []⟩ _ (by kernel_rfl) (.cons (ih_plaws_toTermS h86) .nil) ?_
      refine Wc.seq ?_
      refine Wc.region [] [] [2] [2] [] ⟨[(2, (.ptr 2 0, []))], [(2, .cells [.int .i64 c104_.gKind, .str c104_.gName, .int .i64 c104_.gNum, .sl (List.map GTerm.c j105_)] [])], []⟩ _ (by kernel_rfl) .nil ?_
      refine Wc.ret ?_
      obtain rfl := Option.some.inj h
      exact ⟨.inl rfl, by kernel_rfl, by kernel_rfl⟩
    · intro a106_ r h
      rw [plaws_toTermS] at h
      refine FnO.of Try.func132 (rfl : Try.f132.body = some _) (Nat.le_of_ble_eq_true (by kernel_rfl)) (Nat.le_of_ble_eq_true (by kernel_rfl)) ?_
      intro w0 X0 Fin pv0 pb gt
      refine Wc.seq ?_
      refine Wc.region [] [] [0] [] [] ⟨[(0, (.v (.sl (List.map GTerm.c a106_)), []))], [], []⟩ _ (by kernel_rfl) .nil ?_
      refine Wc.seq ?_
      obtain ⟨h87, h⟩ := oguard h
      refine Wc.region [{}, { v := some (.int .i64 (a106_.length : Int)) }, { c := some (List.map GTerm.c (List.replicate ((a106_.length : Int)).toNat (GTerm.mk 0 (bs []) 0 []))) }, { tk := [7], fx := [.ag (.t 7 0)] }] [] [0, 3] [] [] ⟨[(0, (.v (.sl (List.map GTerm.c a106_)), [])), (3, (.v (.slx), [(0, .ex 41 false (List.map GTerm.c (List.replicate ((a106_.length : Int)).toNat (GTerm.mk 0 (bs []) 0 []))))]))], [], []⟩ _ (by kernel_rfl) (.cons (len_obl GTerm.c a106_) (.cons (rep_re (c := GTerm.c) (z := (GTerm.mk 0 (bs []) 0 [])) (GTerm.c_eq (GTerm.mk 0 (bs []) 0 [])) ((a106_.length : Int)).toNat) (.cons (ms_obl h87) .nil))) ?_
      refine Wc.seq ?_
      refine Wc.seq ?_
      refine Wc.region [] [] [0, 3, 4] [] [] ⟨[(0, (.v (.sl (List.map GTerm.c a106_)), [])), (3, (.v (.slx), [(0, .ex 41 false (List.map GTerm.c (List.replicate ((a106_.length : Int)).toNat (GTerm.mk 0 (bs []) 0 []))))])), (4, (.v (.int .i64 0), []))], [], []⟩ _ (by kernel_rfl) .nil ?_
      obtain ⟨out1, h88, h⟩ := obind h
      refine Wc.lastJ (fun st => ∃ (a109_ : List GTerm), out1 = .done a109_ ∧ st = ⟨[(3, (.v (.slx), [(0, .ex 41 false (List.map GTerm.c a109_))]))], [], []⟩) ?_ ?_
      · refine Wc.block ?_
        refine Wc.loop (fun m st => ∃ (a107_ : List GTerm) (b108_ : Int), st = ⟨[(0, (.v (.sl (List.map GTerm.c a106_)), [])), (3, (.v (.slx), [(0, .ex 41 false (List.map GTerm.c a107_))])), (4, (.v (.int .i64 b108_), []))], [], []⟩ ∧ plaws_toTermS_L1 k (plaws_toTerm k) (plaws_toTermS k) a106_ m a107_ b108_ = some out1) ?_ k ⟨_, _, rfl, h88⟩
        rintro m st ⟨a107_, b108_, rfl, h88⟩
        cases m with
        | zero => exact (onone h88).elim
        | succ m =>
          refine Wc.seq ?_
          refine Wc.seq ?_
          refine Wc.region [{}, {}, { v := some (.int .i64 (a106_.length : Int)) }] [] [0, 3, 4, 11] [] [] ⟨[(0, (.v (.sl (List.map GTerm.c a106_)), [])), (3, (.v (.slx), [(0, .ex 41 false (List.map GTerm.c a107_))])), (4, (.v (.int .i64 b108_), [])), (11, (.v (.bool (decide (b108_ < (a106_.length : Int)))), []))], [], []⟩ _ (by kernel_rfl) (.cons (len_obl GTerm.c a106_) .nil) ?_
          rcases oif h88 with ⟨h89, h88⟩ | ⟨h89, h88⟩
          · refine Wc.condT h89 (by kernel_rfl) ?_
            refine Wc.fix (st' := ⟨[(0, (.v (.sl (List.map GTerm.c a106_)), [])), (3, (.v (.slx), [(0, .ex 41 false (List.map GTerm.c a107_))])), (4, (.v (.int .i64 b108_), []))], [], []⟩) [] [0, 3, 4] [] [] (by kernel_rfl) ?_
            refine Wc.skip ?_
            refine Wc.seq ?_
            refine Wc.block ?_
            obtain ⟨c110_, h90, h88⟩ := obind h88
            obtain ⟨c111_, h91, h88⟩ := obind h88
            obtain ⟨c112_, h92, h88⟩ := obind h88
            refine Wc.region [{}, {}, {}, {}, { v := some (.vptr [.int .i64 c110_.gKind, .str c110_.gName, .int .i64 c110_.gNum, .sl (List.map GTerm.c c110_.gKids)]) }, {}, { r := some (.v (.agg [.int .i64 c111_.gKind, .str c111_.gName, .int .i64 c111_.gNum, .sl (List.map GTerm.c c111_.gKids)]) []) }, {}, { c := some (List.map GTerm.c (a107_.set ((b108_).toNat) c111_)) }] [] [0, 3, 4] [] [] ⟨[(0, (.v (.sl (List.map GTerm.c a106_)), [])), (3, (.v (.slx), [(0, .ex 41 false (List.map GTerm.c (a107_.set ((b108_).toNat) c111_)))])), (4, (.v (.int .i64 b108_), []))], [], []⟩ _ (by kernel_rfl) (.cons (at_obl (c := GTerm.c) (GTerm.c_eq c110_) GTerm.c_len h90) (.cons (len_ok 4 [.int .i64 c110_.gKind, .str c110_.gName, .int .i64 c110_.gNum, .sl (List.map GTerm.c c110_.gKids)]) (.cons (ih_plaws_toTerm h91) (.cons (ix_obl (c := GTerm.c) GTerm.c_len h92) (.cons (mod_obl (off := 0) (new := [.int .i64 c111_.gKind, .str c111_.gName, .int .i64 c111_.gNum, .sl (List.map GTerm.c c111_.gKids)]) (c := GTerm.c) (GTerm.c_eq c112_) (GTerm.c_eq c111_) (at'_spec h92).2 rfl) (.cons (st_obl (sz := 4) (off := 0) (s := 4) (c := GTerm.c) (GTerm.c_eq c112_) (at'_spec h92).2 rfl (Nat.le_of_ble_eq_true rfl)) .nil)))))) ?_
            refine Wc.region [] [] [0, 3, 4] [] [] ⟨[(0, (.v (.sl (List.map GTerm.c a106_)), [])), (3, (.v (.slx), [(0, .ex 41 false (List.map GTerm.c (a107_.set ((b108_).toNat) c111_)))])), (4, (.v (.int .i64 (wr.i64 (b108_ + 1))), []))], [], []⟩ _ (by kernel_rfl) .nil ?_
            exact ⟨_, Nat.lt_succ_self _, _, _, rfl, h88⟩
          · refine Wc.condF h89 (by kernel_rfl) ?_
            refine Wc.fix (st' := ⟨[(3, (.v (.slx), [(0, .ex 41 false (List.map GTerm.c a107_))]))], [], []⟩) [] [3] [] [] (by kernel_rfl) ?_
            refine Wc.exit ?_
            obtain rfl := Option.some.inj h88
            exact ⟨_, rfl, rfl⟩
      · rintro st ⟨a109_, rfl, rfl⟩
        refine Wc.seq ?_
        refine Wc.region [{ tk := [3] }, { tk := [22] }] [] [2] [] [] ⟨[(2, (.v (.slx), [(0, .ex 41 false (List.map GTerm.c a109_))]))], [], []⟩ _ (by kernel_rfl) .nil ?_
        refine Wc.fix (st' := ⟨[(2, (.v (.sl (List.map GTerm.c a109_)), []))], [], []⟩) [.sh (.t 2 0)] [2] [] [] (by kernel_rfl) ?_
        refine Wc.ret ?_
        obtain rfl := Option.some.inj h
        exact ⟨.inl rfl, by kernel_rfl, by kernel_rfl⟩
theorem claws_toTerm {k : Nat} {c104_ : GTerm} {r : GTerm} (h : plaws_toTerm k c104_ = some r) : FnO Try.prog 116 [.v (.agg [.int .i64 c104_.gKind, .str c104_.gName, .int .i64 c104_.gNum, .sl (List.map GTerm.c c104_.gKids)]) []] (.v (.agg [.int .i64 r.gKind, .str r.gName, .int .i64 r.gNum, .sl (List.map GTerm.c r.gKids)]) []) [] := (all_plaws_toTerm k).1 h
theorem claws_toTermS {k : Nat} {a106_ : List GTerm} {r : (List GTerm)} (h : plaws_toTermS k a106_ = some r) : FnO Try.prog 132 [.v (.sl (List.map GTerm.c a106_)) []] (.v (.sl (List.map GTerm.c r)) []) [] := (all_plaws_toTerm k).2 h

/-- laws.toClause -/
def plaws_toClause (k : Nat) (d113_ : GClause) : Option GClause :=
  (plaws_toTerm k d113_.gHead).bind fun c114_ =>
  (plaws_toTerm k d113_.gBody).bind fun c115_ =>
  some (GClause.mk c114_ c115_ d113_.gFile)
theorem claws_toClause {k : Nat} {d113_ : GClause} {r : GClause} (h : plaws_toClause k d113_ = some r) : FnO Try.prog 84 [.v (.agg [.int .i64 d113_.gHead.gKind, .str d113_.gHead.gName, .int .i64 d113_.gHead.gNum, .sl (List.map GTerm.c d113_.gHead.gKids), .int .i64 d113_.gBody.gKind, .str d113_.gBody.gName, .int .i64 d113_.gBody.gNum, .sl (List.map GTerm.c d113_.gBody.gKids), .str d113_.gFile]) []] (.v (.agg [.int .i64 r.gHead.gKind, .str r.gHead.gName, .int .i64 r.gHead.gNum, .sl (List.map GTerm.c r.gHead.gKids), .int .i64 r.gBody.gKind, .str r.gBody.gName, .int .i64 r.gBody.gNum, .sl (List.map GTerm.c r.gBody.gKids), .str r.gFile]) []) [] := by
  refine FnO.of Try.func84 (rfl : Try.f84.body = some _) (Nat.le_of_ble_eq_true (by kernel_rfl)) (Nat.le_of_ble_eq_true (by kernel_rfl)) ?_
  intro w0 X0 Fin pv0 pb gt
  unfold plaws_toClause at h
  refine Wc.seq ?_
  refine Wc.region [] [] [1, 2] [1, 2] [] ⟨[(1, (.ptr 1 0, [])), (2, (.ptr 2 0, []))], [(1, .cells [.int .i64 d113_.gHead.gKind, .str d113_.gHead.gName, .int .i64 d113_.gHead.gNum, .sl (List.map GTerm.c d113_.gHead.gKids), .int .i64 d113_.gBody.gKind, .str d113_.gBody.gName, .int .i64 d113_.gBody.gNum, .sl (List.map GTerm.c d113_.gBody.gKids), .str d113_.gFile] []), (2, .cells [.int .i64 0, .str (bs []), .int .i64 0, .sl (List.map GTerm.c []), .int .i64 0, .str (bs []), .int .i64 0, .sl (List.map GTerm.c []), .str (bs [])] [(3, .app 41), (7, .app 41)])], []⟩ _ (by kernel_rfl) .nil ?_
  refine Wc.seq ?_
  refine Wc.region [] [] [1, 2, 3] [1, 2, 3] [] ⟨[(1, (.ptr 1 0, [])), (2, (.ptr 2 0, [])), (3, (.ptr 3 0, []))], [(1, .cells [.int .i64 d113_.gHead.gKind, .str d113_.gHead.gName, .int .i64 d113_.gHead.gNum, .sl (List.map GTerm.c d113_.gHead.gKids), .int .i64 d113_.gBody.gKind, .str d113_.gBody.gName, .int .i64 d113_.gBody.gNum, .sl (List.map GTerm.c d113_.gBody.gKids), .str d113_.gFile] []), (2, .cells [.int .i64 0, .str (bs []), .int .i64 0, .sl (List.map GTerm.c []), .int .i64 0, .str (bs []), .int .i64 0, .sl (List.map GTerm.c []), .str (bs [])] [(3, .app 41), (7, .app 41)]), (3, .cells [.int .i64 0, .str (bs []), .int .i64 0, .sl (List.map GTerm.c []), .int .i64 0, .str (bs []), .int .i64 0, .sl (List.map GTerm.c []), .str (bs [])] [(3, .app 41), (7, .app 41)])], []⟩ _ (by kernel_rfl) .nil ?_
  refine Wc.seq ?_
  obtain ⟨c114_, h93, h⟩ := obind h
  refine Wc.region [{}, {}, { r := some (.v (.agg [.int .i64 c114_.gKind, .str c114_.gName, .int .i64 c114_.gNum, .sl (List.map GTerm.c c114_.gKids)]) []) }] [] [1, 2, 3] [1, 2, 3] [] ⟨[(1, (.ptr 1 0, [])), (2, (.ptr 2 0, [])), (3, (.ptr 3 0, []))], [(1, .cells [.int .i64 d113_.gHead.gKind, .str d113_.gHead.gName, .int .i64 d113_.gHead.gNum, .sl (List.map GTerm.c d113_.gHead.gKids), .int .i64 d113_.gBody.gKind, .str d113_.gBody.gName, .int .i64 d113_.gBody.gNum, .sl (List.map GTerm.c d113_.gBody.gKids), .str d113_.gFile] []), (2, .cells [.int .i64 0, .str (bs []), .int .i64 0, .sl (List.map GTerm.c []), .int .i64 0, .str (bs []), .int .i64 0, .sl (List.map GTerm.c []), .str (bs [])] [(3, .app 41), (7, .app 41)]), (3, .cells [.int .i64 c114_.gKind, .str c114_.gName, .int .i64 c114_.gNum, .sl (List.map GTerm.c c114_.gKids), .int .i64 0, .str (bs []), .int .i64 0, .sl (List.map GTerm.c []), .str (bs [])] [(7, .app 41)])], []⟩ _ (by kernel_rfl) (.cons (claws_toTerm h93) .nil) ?_
  refine Wc.seq ?_
  obtain ⟨c115_, h94, h⟩ := obind h
  refine Wc.region [{}, {}, { r := some (.v (.agg [.int .i64 c115_.gKind, .str c115_.gName, .int .i64 c115_.gNum, .sl (List.map GTerm.c c115_.gKids)]) []) }] [] [1, 2, 3] [1, 2, 3] [] ⟨[(1, (.ptr 1 0, [])), (2, (.ptr 2 0, [])), (3, (.ptr 3 0, []))], [(1, .cells [.int .i64 d113_.gHead.gKind, .str d113_.gHead.gName, .int .i64 d113_.gHead.gNum, .sl (List.map GTerm.c d113_.gHead.gKids), .int .i64 d113_.gBody.gKind, .str d113_.gBody.gName, .int .i64 d113_.gBody.gNum, .sl (List.map GTerm.c d113_.gBody.gKids), .str d113_.gFile] []), (2, .cells [.int .i64 0, .str (bs []), .int .i64 0, .sl (List.map GTerm.c []), .int .i64 0, .str (bs []), .int .i64 0, .sl (List.map GTerm.c []), .str (bs [])] [(3, .app 41), (7, .app 41)]), (3, .cells [.int .i64 c114_.gKind, .str c114_.gName, .int .i64 c114_.gNum, .sl (List.map GTerm.c c114_.gKids), .int .i64 c115_.gKind, .str c115_.gName, .int .i64 c115_.gNum, .sl (List.map GTerm.c c115_.gKids), .str (bs [])] [])], []⟩ _ (by kernel_rfl) (.cons (claws_toTerm h94) .nil) ?_
  refine Wc.seq ?_
  refine Wc.region [] [] [2, 3] [2, 3] [] ⟨[(2, (.ptr 2 0, [])), (3, (.ptr 3 0, []))], [(2, .cells [.int .i64 0, .str (bs []), .int .i64 0, .sl (List.map GTerm.c []), .int .i64 0, .str (bs []), .int .i64 0, .sl (List.map GTerm.c []), .str (bs [])] [(3, .app 41), (7, .app 41)]), (3, .cells [.int .i64 c114_.gKind, .str c114_.gName, .int .i64 c114_.gNum, .sl (List.map GTerm.c c114_.gKids), .int .i64 c115_.gKind, .str c115_.gName, .int .i64 c115_.gNum, .sl (List.map GTerm.c c115_.gKids), .str d113_.gFile] [])], []⟩ _ (by kernel_rfl) .nil ?_
  refine Wc.seq ?_
  refine Wc.region [] [] [2] [2] [] ⟨[(2, (.ptr 2 0, []))], [(2, .cells [.int .i64 c114_.gKind, .str c114_.gName, .int .i64 c114_.gNum, .sl (List.map GTerm.c c114_.gKids), .int .i64 c115_.gKind, .str c115_.gName, .int .i64 c115_.gNum, .sl (List.map GTerm.c c115_.gKids), .str d113_.gFile] [])], []⟩ _ (by kernel_rfl) .nil ?_
  refine Wc.ret ?_
  obtain rfl := Option.some.inj h
  exact ⟨.inl rfl, by kernel_rfl, by kernel_rfl⟩

def plaws_toClauseS_L1 (k : Nat) (e116_ : List GClause) : Nat → (List GClause) → Int → Option (Out (List GClause) (List GClause))
  | 0, _, _ => none
  | m + 1, e117_, b118_ =>
    if (decide (b118_ < (e116_.length : Int))) = true then
      (at' e116_ b118_).bind fun d120_ =>
      (plaws_toClause k d120_).bind fun d121_ =>
      (at' e117_ b118_).bind fun d122_ =>
      plaws_toClauseS_L1 k e116_ m (e117_.set ((b118_).toNat) d121_) (wr.i64 (b118_ + 1))
    else
      some (.done e117_)
/-- laws.toClauseS -/
def plaws_toClauseS (k : Nat) (e116_ : List GClause) : Option (List GClause) :=
  if 0 ≤ (e116_.length : Int) ∧ (e116_.length : Int) ≤ 1073741824 then
    (plaws_toClauseS_L1 k e116_ k (List.replicate ((e116_.length : Int)).toNat (GClause.mk (GTerm.mk 0 (bs []) 0 []) (GTerm.mk 0 (bs []) 0 []) (bs []))) 0).bind fun out1 => match out1 with
    | .ret r => some r
    | .done e119_ =>
      some e119_
  else none
theorem claws_toClauseS {k : Nat} {e116_ : List GClause} {r : (List GClause)} (h : plaws_toClauseS k e116_ = some r) : FnO Try.prog 39 [.v (.sl (List.map GClause.c e116_)) []] (.v (.sl (List.map GClause.c r)) []) [] := by
  refine FnO.of Try.func39 (rfl : Try.f39.body = some _) (Nat.le_of_ble_eq_true (by kernel_rfl)) (Nat.le_of_ble_eq_true (by kernel_rfl)) ?_
  intro w0 X0 Fin pv0 pb gt
  unfold plaws_toClauseS at h
  refine Wc.seq ?_
  refine Wc.region [] [] [0] [] [] ⟨[(0, (.v (.sl (List.map GClause.c e116_)), []))], [], []⟩ _ (by kernel_rfl) .nil ?_
  refine Wc.seq ?_
  obtain ⟨h95, h⟩ := oguard h
  refine Wc.region [{}, { v := some (.int .i64 (e116_.length : Int)) }, { c := some (List.map GClause.c (List.replicate ((e116_.length : Int)).toNat (GClause.mk (GTerm.mk 0 (bs []) 0 []) (GTerm.mk 0 (bs []) 0 []) (bs [])))) }, { tk := [7], fx := [.ag (.t 7 0)] }] [] [0, 3] [] [] ⟨[(0, (.v (.sl (List.map GClause.c e116_)), [])), (3, (.v (.slx), [(0, .ex 70 false (List.map GClause.c (List.replicate ((e116_.length : Int)).toNat (GClause.mk (GTerm.mk 0 (bs []) 0 []) (GTerm.mk 0 (bs []) 0 []) (bs [])))))]))], [], []⟩ _ (by kernel_rfl) (.cons (len_obl GClause.c e116_) (.cons (rep_re (c := GClause.c) (z := (GClause.mk (GTerm.mk 0 (bs []) 0 []) (GTerm.mk 0 (bs []) 0 []) (bs []))) (GClause.c_eq (GClause.mk (GTerm.mk 0 (bs []) 0 []) (GTerm.mk 0 (bs []) 0 []) (bs []))) ((e116_.length : Int)).toNat) (.cons (ms_obl h95) .nil))) ?_
  refine Wc.seq ?_
  refine Wc.seq ?_
  refine Wc.region [] [] [0, 3, 4] [] [] ⟨[(0, (.v (.sl (List.map GClause.c e116_)), [])), (3, (.v (.slx), [(0, .ex 70 false (List.map GClause.c (List.replicate ((e116_.length : Int)).toNat (GClause.mk (GTerm.mk 0 (bs []) 0 []) (GTerm.mk 0 (bs []) 0 []) (bs [])))))])), (4, (.v (.int .i64 0), []))], [], []⟩ _ (by kernel_rfl) .nil ?_
  obtain ⟨out1, h96, h⟩ := obind h
  refine Wc.lastJ (fun st => ∃ (e119_ : List GClause), out1 = .done e119_ ∧ st = ⟨[(3, (.v (.slx), [(0, .ex 70 false (List.map GClause.c e119_))]))], [], []⟩) ?_ ?_
  · refine Wc.block ?_
    refine Wc.loop (fun m st => ∃ (e117_ : List GClause) (b118_ : Int), st = ⟨[(0, (.v (.sl (List.map GClause.c e116_)), [])), (3, (.v (.slx), [(0, .ex 70 false (List.map GClause.c e117_))])), (4, (.v (.int .i64 b118_), []))], [], []⟩ ∧ plaws_toClauseS_L1 k e116_ m e117_ b118_ = some out1) ?_ k ⟨_, _, rfl, h96⟩
    rintro m st ⟨e117_, b118_, rfl, h96⟩
    cases m with
    | zero => exact (onone h96).elim
    | succ m =>
      refine Wc.seq ?_
      refine Wc.seq ?_
      refine Wc.region [{}, {}, { v := some (.int .i64 (e116_.length : Int)) }] [] [0, 3, 4, 11] [] [] ⟨[(0, (.v (.sl (List.map GClause.c e116_)), [])), (3, (.v (.slx), [(0, .ex 70 false (List.map GClause.c e117_))])), (4, (.v (.int .i64 b118_), [])), (11, (.v (.bool (decide (b118_ < (e116_.length : Int)))), []))], [], []⟩ _ (by kernel_rfl) (.cons (len_obl GClause.c e116_) .nil) ?_
      rcases oif h96 with ⟨h97, h96⟩ | ⟨h97, h96⟩
      · refine Wc.condT h97 (by kernel_rfl) ?_
        refine Wc.fix (st' := ⟨[(0, (.v (.sl (List.map GClause.c e116_)), [])), (3, (.v (.slx), [(0, .ex 70 false (List.map GClause.c e117_))])), (4, (.v (.int .i64 b118_), []))], [], []⟩) [] [0, 3, 4] [] [] (by kernel_rfl) ?_
        refine Wc.skip ?_
        refine Wc.seq ?_
        refine Wc.block ?_
        obtain ⟨d120_, h98, h96⟩ := obind h96
        obtain ⟨d121_, h99, h96⟩ := obind h96
        obtain ⟨d122_, h100, h96⟩ := obind h96
        refine Wc.region [{}, {}, {}, {}, { v := some (.vptr [.int .i64 d120_.gHead.gKind, .str d120_.gHead.gName, .int .i64 d120_.gHead.gNum, .sl (List.map GTerm.c d120_.gHead.gKids), .int .i64 d120_.gBody.gKind, .str d120_.gBody.gName, .int .i64 d120_.gBody.gNum, .sl (List.map GTerm.c d120_.gBody.gKids), .str d120_.gFile]) }, {}, { r := some (.v (.agg [.int .i64 d121_.gHead.gKind, .str d121_.gHead.gName, .int .i64 d121_.gHead.gNum, .sl (List.map GTerm.c d121_.gHead.gKids), .int .i64 d121_.gBody.gKind, .str d121_.gBody.gName, .int .i64 d121_.gBody.gNum, .sl (List.map GTerm.c d121_.gBody.gKids), .str d121_.gFile]) []) }, {}, { c := some (List.map GClause.c (e117_.set ((b118_).toNat) d121_)) }] [] [0, 3, 4] [] [] ⟨[(0, (.v (.sl (List.map GClause.c e116_)), [])), (3, (.v (.slx), [(0, .ex 70 false (List.map GClause.c (e117_.set ((b118_).toNat) d121_)))])), (4, (.v (.int .i64 b118_), []))], [], []⟩ _ (by kernel_rfl) (.cons (at_obl (c := GClause.c) (GClause.c_eq d120_) GClause.c_len h98) (.cons (len_ok 9 [.int .i64 d120_.gHead.gKind, .str d120_.gHead.gName, .int .i64 d120_.gHead.gNum, .sl (List.map GTerm.c d120_.gHead.gKids), .int .i64 d120_.gBody.gKind, .str d120_.gBody.gName, .int .i64 d120_.gBody.gNum, .sl (List.map GTerm.c d120_.gBody.gKids), .str d120_.gFile]) (.cons (claws_toClause h99) (.cons (ix_obl (c := GClause.c) GClause.c_len h100) (.cons (mod_obl (off := 0) (new := [.int .i64 d121_.gHead.gKind, .str d121_.gHead.gName, .int .i64 d121_.gHead.gNum, .sl (List.map GTerm.c d121_.gHead.gKids), .int .i64 d121_.gBody.gKind, .str d121_.gBody.gName, .int .i64 d121_.gBody.gNum, .sl (List.map GTerm.c d121_.gBody.gKids), .str d121_.gFile]) (c := GClause.c) (GClause.c_eq d122_) (GClause.c_eq d121_) (at'_spec h100).2 rfl) (.cons (st_obl (sz := 9) (off := 0) (s := 9) (c := GClause.c) (GClause.c_eq d122_) (at'_spec h100).2 rfl (Nat.le_of_ble_eq_true rfl)) .nil)))))) ?_
        refine Wc.region [] [] [0, 3, 4] [] [] ⟨[(0, (.v (.sl (List.map GClause.c e116_)), [])), (3, (.v (.slx), [(0, .ex 70 false (List.map GClause.c (e117_.set ((b118_).toNat) d121_)))])), (4, (.v (.int .i64 (wr.i64 (b118_ + 1))), []))], [], []⟩ _ (by kernel_rfl) .nil ?_
        exact ⟨_, Nat.lt_succ_self _, _, _, rfl, h96⟩
      · refine Wc.condF h97 (by kernel_rfl) ?_
        refine Wc.fix (st' := ⟨[(3, (.v (.slx), [(0, .ex 70 false (List.map GClause.c e117_))]))], [], []⟩) [] [3] [] [] (by kernel_rfl) ?_
        refine Wc.exit ?_
        obtain rfl := Option.some.inj h96
        exact ⟨_, rfl, rfl⟩
  · rintro st ⟨e119_, rfl, rfl⟩
    refine Wc.seq ?_
    refine Wc.region [{ tk := [3] }, { tk := [22] }] [] [2] [] [] ⟨[(2, (.v (.slx), [(0, .ex 70 false (List.map GClause.c e119_))]))], [], []⟩ _ (by kernel_rfl) .nil ?_
    refine Wc.fix (st' := ⟨[(2, (.v (.sl (List.map GClause.c e119_)), []))], [], []⟩) [.sh (.t 2 0)] [2] [] [] (by kernel_rfl) ?_
    refine Wc.ret ?_
    obtain rfl := Option.some.inj h
    exact ⟨.inl rfl, by kernel_rfl, by kernel_rfl⟩

def plaws_toStringS_L1 (k : Nat) (f123_ : List ByteArray) : Nat → (List ByteArray) → Int → Option (Out (List ByteArray) (List ByteArray))
  | 0, _, _ => none
  | m + 1, f124_, b125_ =>
    if (decide (b125_ < (f123_.length : Int))) = true then
      (at' f123_ b125_).bind fun g127_ =>
      (at' f124_ b125_).bind fun g128_ =>
      plaws_toStringS_L1 k f123_ m (f124_.set ((b125_).toNat) g127_) (wr.i64 (b125_ + 1))
    else
      some (.done f124_)
/-- laws.toStringS -/
def plaws_toStringS (k : Nat) (f123_ : List ByteArray) : Option (List ByteArray) :=
  if 0 ≤ (f123_.length : Int) ∧ (f123_.length : Int) ≤ 1073741824 then
    (plaws_toStringS_L1 k f123_ k (List.replicate ((f123_.length : Int)).toNat (bs [])) 0).bind fun out1 => match out1 with
    | .ret r => some r
    | .done f126_ =>
      some f126_
  else none
theorem claws_toStringS {k : Nat} {f123_ : List ByteArray} {r : (List ByteArray)} (h : plaws_toStringS k f123_ = some r) : FnO Try.prog 40 [.v (.sl (List.map cS f123_)) []] (.v (.sl (List.map cS r)) []) [] := by
  refine FnO.of Try.func40 (rfl : Try.f40.body = some _) (Nat.le_of_ble_eq_true (by kernel_rfl)) (Nat.le_of_ble_eq_true (by kernel_rfl)) ?_
  intro w0 X0 Fin pv0 pb gt
  unfold plaws_toStringS at h
  refine Wc.seq ?_
  refine Wc.region [] [] [0] [] [] ⟨[(0, (.v (.sl (List.map cS f123_)), []))], [], []⟩ _ (by kernel_rfl) .nil ?_
  refine Wc.seq ?_
  obtain ⟨h101, h⟩ := oguard h
  refine Wc.region [{}, { v := some (.int .i64 (f123_.length : Int)) }, { c := some (List.map cS (List.replicate ((f123_.length : Int)).toNat (bs []))) }, { tk := [7] }] [] [0, 3] [] [] ⟨[(0, (.v (.sl (List.map cS f123_)), [])), (3, (.v (.slx), [(0, .ex 9 true (List.map cS (List.replicate ((f123_.length : Int)).toNat (bs []))))]))], [], []⟩ _ (by kernel_rfl) (.cons (len_obl cS f123_) (.cons (rep_re (c := cS) (z := (bs [])) rfl ((f123_.length : Int)).toNat) (.cons (ms_obl h101) .nil))) ?_
  refine Wc.seq ?_
  refine Wc.seq ?_
  refine Wc.region [] [] [0, 3, 4] [] [] ⟨[(0, (.v (.sl (List.map cS f123_)), [])), (3, (.v (.slx), [(0, .ex 9 true (List.map cS (List.replicate ((f123_.length : Int)).toNat (bs []))))])), (4, (.v (.int .i64 0), []))], [], []⟩ _ (by kernel_rfl) .nil ?_
  obtain ⟨out1, h102, h⟩ := obind h
  refine Wc.lastJ (fun st => ∃ (f126_ : List ByteArray), out1 = .done f126_ ∧ st = ⟨[(3, (.v (.slx), [(0, .ex 9 true (List.map cS f126_))]))], [], []⟩) ?_ ?_
  · refine Wc.block ?_
    refine Wc.loop (fun m st => ∃ (f124_ : List ByteArray) (b125_ : Int), st = ⟨[(0, (.v (.sl (List.map cS f123_)), [])), (3, (.v (.slx), [(0, .ex 9 true (List.map cS f124_))])), (4, (.v (.int .i64 b125_), []))], [], []⟩ ∧ plaws_toStringS_L1 k f123_ m f124_ b125_ = some out1) ?_ k ⟨_, _, rfl, h102⟩
    rintro m st ⟨f124_, b125_, rfl, h102⟩
    cases m with
    | zero => exact (onone h102).elim
    | succ m =>
      refine Wc.seq ?_
      refine Wc.seq ?_
      refine Wc.region [{}, {}, { v := some (.int .i64 (f123_.length : Int)) }] [] [0, 3, 4, 11] [] [] ⟨[(0, (.v (.sl (List.map cS f123_)), [])), (3, (.v (.slx), [(0, .ex 9 true (List.map cS f124_))])), (4, (.v (.int .i64 b125_), [])), (11, (.v (.bool (decide (b125_ < (f123_.length : Int)))), []))], [], []⟩ _ (by kernel_rfl) (.cons (len_obl cS f123_) .nil) ?_
      rcases oif h102 with ⟨h103, h102⟩ | ⟨h103, h102⟩
      · refine Wc.condT h103 (by kernel_rfl) ?_
        refine Wc.fix (st' := ⟨[(0, (.v (.sl (List.map cS f123_)), [])), (3, (.v (.slx), [(0, .ex 9 true (List.map cS f124_))])), (4, (.v (.int .i64 b125_), []))], [], []⟩) [] [0, 3, 4] [] [] (by kernel_rfl) ?_
        refine Wc.skip ?_
        refine Wc.seq ?_
        refine Wc.block ?_
        obtain ⟨g127_, h104, h102⟩ := obind h102
        obtain ⟨g128_, h105, h102⟩ := obind h102
        refine Wc.region [{}, {}, {}, {}, { v := some (.vptr [.str g127_]) }, {}, {}, { c := some (List.map cS (f124_.set ((b125_).toNat) g127_)) }] [] [0, 3, 4] [] [] ⟨[(0, (.v (.sl (List.map cS f123_)), [])), (3, (.v (.slx), [(0, .ex 9 true (List.map cS (f124_.set ((b125_).toNat) g127_)))])), (4, (.v (.int .i64 b125_), []))], [], []⟩ _ (by kernel_rfl) (.cons (at_obl (c := cS) rfl cS_len h104) (.cons (len_ok 1 [.str g127_]) (.cons (ix_obl (c := cS) cS_len h105) (.cons (mod_obl (off := 0) (new := [.str g127_]) (c := cS) rfl rfl (at'_spec h105).2 rfl) (.cons (st_obl (sz := 1) (off := 0) (s := 1) (c := cS) rfl (at'_spec h105).2 rfl (Nat.le_of_ble_eq_true rfl)) .nil))))) ?_
        refine Wc.region [] [] [0, 3, 4] [] [] ⟨[(0, (.v (.sl (List.map cS f123_)), [])), (3, (.v (.slx), [(0, .ex 9 true (List.map cS (f124_.set ((b125_).toNat) g127_)))])), (4, (.v (.int .i64 (wr.i64 (b125_ + 1))), []))], [], []⟩ _ (by kernel_rfl) .nil ?_
        exact ⟨_, Nat.lt_succ_self _, _, _, rfl, h102⟩
      · refine Wc.condF h103 (by kernel_rfl) ?_
        refine Wc.fix (st' := ⟨[(3, (.v (.slx), [(0, .ex 9 true (List.map cS f124_))]))], [], []⟩) [] [3] [] [] (by kernel_rfl) ?_
        refine Wc.exit ?_
        obtain rfl := Option.some.inj h102
        exact ⟨_, rfl, rfl⟩
  · rintro st ⟨f126_, rfl, rfl⟩
    refine Wc.seq ?_
    refine Wc.region [{ tk := [3] }, { tk := [21] }] [] [2] [] [] ⟨[(2, (.v (.slx), [(0, .ex 9 true (List.map cS f126_))]))], [], []⟩ _ (by kernel_rfl) .nil ?_
    refine Wc.fix (st' := ⟨[(2, (.v (.sl (List.map cS f126_)), []))], [], []⟩) [.sh (.t 2 0)] [2] [] [] (by kernel_rfl) ?_
    refine Wc.ret ?_
    obtain rfl := Option.some.inj h
    exact ⟨.inl rfl, by kernel_rfl, by kernel_rfl⟩

/-- laws.toDb -/
def plaws_toDb (k : Nat) (i129_ : GDb) : Option GDb :=
  (plaws_toClauseS k i129_.gClauses).bind fun l130_ =>
  (plaws_toStringS k i129_.gOpen).bind fun m131_ =>
  some (GDb.mk l130_ m131_)
theorem claws_toDb {k : Nat} {i129_ : GDb} {r : GDb} (h : plaws_toDb k i129_ = some r) : FnO Try.prog 8 [.v (.agg [.sl (List.map GClause.c i129_.gClauses), .sl (List.map cS i129_.gOpen)]) []] (.v (.agg [.sl (List.map GClause.c r.gClauses), .sl (List.map cS r.gOpen)]) []) [] := by
  refine FnO.of Try.func8 (rfl : Try.f8.body = some _) (Nat.le_of_ble_eq_true (by kernel_rfl)) (Nat.le_of_ble_eq_true (by kernel_rfl)) ?_
  intro w0 X0 Fin pv0 pb gt
  unfold plaws_toDb at h
  refine Wc.seq ?_
  refine Wc.region [] [] [1, 2] [1, 2] [] ⟨[(1, (.ptr 1 0, [])), (2, (.ptr 2 0, []))], [(1, .cells [.sl (List.map GClause.c i129_.gClauses), .sl (List.map cS i129_.gOpen)] []), (2, .cells [.sl (List.map GClause.c []), .sl (List.map cS [])] [(0, .app 70), (1, .app 9)])], []⟩ _ (by kernel_rfl) .nil ?_
  refine Wc.seq ?_
  refine Wc.region [] [] [1, 2, 3] [1, 2, 3] [] ⟨[(1, (.ptr 1 0, [])), (2, (.ptr 2 0, [])), (3, (.ptr 3 0, []))], [(1, .cells [.sl (List.map GClause.c i129_.gClauses), .sl (List.map cS i129_.gOpen)] []), (2, .cells [.sl (List.map GClause.c []), .sl (List.map cS [])] [(0, .app 70), (1, .app 9)]), (3, .cells [.sl (List.map GClause.c []), .sl (List.map cS [])] [(0, .app 70), (1, .app 9)])], []⟩ _ (by kernel_rfl) .nil ?_
  refine Wc.seq ?_
  obtain ⟨l130_, h106, h⟩ := obind h
  refine Wc.region [{}, {}, { r := some (.v (.sl (List.map GClause.c l130_)) []) }] [] [1, 2, 3] [1, 2, 3] [] ⟨[(1, (.ptr 1 0, [])), (2, (.ptr 2 0, [])), (3, (.ptr 3 0, []))], [(1, .cells [.sl (List.map GClause.c i129_.gClauses), .sl (List.map cS i129_.gOpen)] []), (2, .cells [.sl (List.map GClause.c []), .sl (List.map cS [])] [(0, .app 70), (1, .app 9)]), (3, .cells [.sl (List.map GClause.c l130_), .sl (List.map cS [])] [(1, .app 9)])], []⟩ _ (by kernel_rfl) (.cons (claws_toClauseS h106) .nil) ?_
  refine Wc.seq ?_
  obtain ⟨m131_, h107, h⟩ := obind h
  refine Wc.region [{}, {}, { r := some (.v (.sl (List.map cS m131_)) []) }] [] [2, 3] [2, 3] [] ⟨[(2, (.ptr 2 0, [])), (3, (.ptr 3 0, []))], [(2, .cells [.sl (List.map GClause.c []), .sl (List.map cS [])] [(0, .app 70), (1, .app 9)]), (3, .cells [.sl (List.map GClause.c l130_), .sl (List.map cS m131_)] [])], []⟩ _ (by kernel_rfl) (.cons (claws_toStringS h107) .nil) ?_
  refine Wc.seq ?_
  refine Wc.region [] [] [2] [2] [] ⟨[(2, (.ptr 2 0, []))], [(2, .cells [.sl (List.map GClause.c l130_), .sl (List.map cS m131_)] [])], []⟩ _ (by kernel_rfl) .nil ?_
  refine Wc.ret ?_
  obtain rfl := Option.some.inj h
  exact ⟨.inl rfl, by kernel_rfl, by kernel_rfl⟩

/-- impl.copyTerm$1 -/
def pimpl_copyTerm_1 (k : Nat) (b132_ : Int) : Option Int :=
  some b132_
theorem cimpl_copyTerm_1 {k : Nat} {b132_ : Int} {r : Int} (h : pimpl_copyTerm_1 k b132_ = some r) : FnO Try.prog 113 [.v (.int .i64 b132_) []] (.v (.int .i64 r) []) [] := by
  refine FnO.of Try.func113 (rfl : Try.f113.body = some _) (Nat.le_of_ble_eq_true (by kernel_rfl)) (Nat.le_of_ble_eq_true (by kernel_rfl)) ?_
  intro w0 X0 Fin pv0 pb gt
  unfold pimpl_copyTerm_1 at h
  refine Wc.seq ?_
  refine Wc.region [] [] [0] [] [] ⟨[(0, (.v (.int .i64 b132_), []))], [], []⟩ _ (by kernel_rfl) .nil ?_
  refine Wc.seq ?_
  refine Wc.region [] [] [2] [] [] ⟨[(2, (.v (.int .i64 b132_), []))], [], []⟩ _ (by kernel_rfl) .nil ?_
  refine Wc.ret ?_
  obtain rfl := Option.some.inj h
  exact ⟨.inl rfl, by kernel_rfl, by kernel_rfl⟩

def pimpl_renamed_on1_pimpl_copyTerm_1_L2 (k : Nat) (rimpl_renamed_on1_pimpl_copyTerm_1 : GTerm → Option GTerm) (c142_ : GTerm) : Nat → Int → GTerm → Option (Out GTerm GTerm)
  | 0, _, _ => none
  | m + 1, b144_, c145_ =>
    if (decide (b144_ < (c142_.gKids.length : Int))) = true then
      (at' c142_.gKids b144_).bind fun c147_ =>
      (rimpl_renamed_on1_pimpl_copyTerm_1 c147_).bind fun c148_ =>
      if c145_.gKids.length + [c148_].length ≤ 1073741824 then
        pimpl_renamed_on1_pimpl_copyTerm_1_L2 k rimpl_renamed_on1_pimpl_copyTerm_1 c142_ m (wr.i64 (b144_ + 1)) (GTerm.mk c145_.gKind c145_.gName c145_.gNum (c145_.gKids ++ [c148_]))
      else none
    else
      some (.done c145_)
def pimpl_renamed_on1_pimpl_copyTerm_1_J1 (k : Nat) (rimpl_renamed_on1_pimpl_copyTerm_1 : GTerm → Option GTerm) (c142_ : GTerm) (c143_ : GTerm) : Option GTerm :=
  (pimpl_renamed_on1_pimpl_copyTerm_1_L2 k rimpl_renamed_on1_pimpl_copyTerm_1 c142_ k 0 c143_).bind fun out2 => match out2 with
  | .ret r => some r
  | .done c146_ =>
    some c146_
mutual
/-- impl.renamed -/
def pimpl_renamed_on1_pimpl_copyTerm_1 : Nat → GTerm → Option GTerm
  | 0, _ => none
  | k + 1, c142_ =>
    if (c142_.gKind == 1) = true then
      (pimpl_copyTerm_1 k c142_.gNum).bind fun b149_ =>
      pimpl_renamed_on1_pimpl_copyTerm_1_J1 k (pimpl_renamed_on1_pimpl_copyTerm_1 k) c142_ (GTerm.mk c142_.gKind c142_.gName b149_ [])
    else
      pimpl_renamed_on1_pimpl_copyTerm_1_J1 k (pimpl_renamed_on1_pimpl_copyTerm_1 k) c142_ (GTerm.mk c142_.gKind c142_.gName c142_.gNum [])
end
set_option maxHeartbeats 4000000 in
theorem all_pimpl_renamed_on1_pimpl_copyTerm_1 : ∀ k : Nat, (∀ {c142_ : GTerm} {r : GTerm}, pimpl_renamed_on1_pimpl_copyTerm_1 k c142_ = some r → FnO Try.prog 112 [.v (.agg [.int .i64 c142_.gKind, .str c142_.gName, .int .i64 c142_.gNum, .sl (List.map GTerm.c c142_.gKids)]) [], .v (.func 113 []) []] (.v (.agg [.int .i64 r.gKind, .str r.gName, .int .i64 r.gNum, .sl (List.map GTerm.c r.gKids)]) [(3, .app 41)]) []) := by
  intro k
  induction k with
  | zero =>
    · intro c142_ r h
      exact (onone (by rw [pimpl_renamed_on1_pimpl_copyTerm_1] at h; exact h)).elim
  | succ k ih =>
    have ih_pimpl_renamed_on1_pimpl_copyTerm_1 := @ih
    · intro c142_ r h
      rw [pimpl_renamed_on1_pimpl_copyTerm_1] at h
      refine FnO.of Try.func112 (rfl : Try.f112.body = some _) (Nat.le_of_ble_eq_true (by kernel_rfl)) (Nat.le_of_ble_eq_true (by kernel_rfl)) ?_
      intro w0 X0 Fin pv0 pb gt
      refine Wc.seq ?_
      refine Wc.region [] [] [1, 2, 4] [2, 4] [] ⟨[(1, (.v (.func 113 []), [])), (2, (.ptr 2 0, [])), (4, (.ptr 4 0, []))], [(2, .cells [.int .i64 c142_.gKind, .str c142_.gName, .int .i64 c142_.gNum, .sl (List.map GTerm.c c142_.gKids)] []), (4, .cells [.int .i64 0, .str (bs []), .int .i64 0, .sl (List.map GTerm.c [])] [(3, .app 41)])], []⟩ _ (by kernel_rfl) .nil ?_
      refine Wc.seq ?_
      refine Wc.region [] [] [1, 2, 4, 5] [2, 4, 5] [] ⟨[(1, (.v (.func 113 []), [])), (2, (.ptr 2 0, [])), (4, (.ptr 4 0, [])), (5, (.ptr 5 0, []))], [(2, .cells [.int .i64 c142_.gKind, .str c142_.gName, .int .i64 c142_.gNum, .sl (List.map GTerm.c c142_.gKids)] []), (4, .cells [.int .i64 0, .str (bs []), .int .i64 0, .sl (List.map GTerm.c [])] [(3, .app 41)]), (5, .cells [.int .i64 c142_.gKind, .str c142_.gName, .int .i64 c142_.gNum, .sl (List.map GTerm.c c142_.gKids)] [])], []⟩ _ (by kernel_rfl) .nil ?_
      refine Wc.seq ?_
      refine Wc.region [] [] [1, 2, 4, 5] [2, 4, 5] [] ⟨[(1, (.v (.func 113 []), [])), (2, (.ptr 2 0, [])), (4, (.ptr 4 0, [])), (5, (.ptr 5 0, []))], [(2, .cells [.int .i64 c142_.gKind, .str c142_.gName, .int .i64 c142_.gNum, .sl (List.map GTerm.c c142_.gKids)] []), (4, .cells [.int .i64 0, .str (bs []), .int .i64 0, .sl (List.map GTerm.c [])] [(3, .app 41)]), (5, .cells [.int .i64 c142_.gKind, .str c142_.gName, .int .i64 c142_.gNum, .sl (List.map GTerm.c [])] [(3, .app 41)])], []⟩ _ (by kernel_rfl) .nil ?_
      refine Wc.seqJ (fun st => ∃ (c143_ : GTerm), st = ⟨[(1, (.v (.func 113 []), [])), (2, (.ptr 2 0, [])), (4, (.ptr 4 0, [])), (5, (.ptr 5 0, []))], [(2, .cells [.int .i64 c142_.gKind, .str c142_.gName, .int .i64 c142_.gNum, .sl (List.map GTerm.c c142_.gKids)] []), (4, .cells [.int .i64 0, .str (bs []), .int .i64 0, .sl (List.map GTerm.c [])] [(3, .app 41)]), (5, .cells [.int .i64 c143_.gKind, .str c143_.gName, .int .i64 c143_.gNum, .sl (List.map GTerm.c c143_.gKids)] [(3, .app 41)])], []⟩ ∧ pimpl_renamed_on1_pimpl_copyTerm_1_J1 k (pimpl_renamed_on1_pimpl_copyTerm_1 k) c142_ c143_ = some r) ?_ ?_
      · refine Wc.seq ?_
        refine Wc.region [] [] [1, 2, 4, 5, 12] [2, 4, 5] [] ⟨[(1, (.v (.func 113 []), [])), (2, (.ptr 2 0, [])), (4, (.ptr 4 0, [])), (5, (.ptr 5 0, [])), (12, (.v (.bool (c142_.gKind == 1)), []))], [(2, .cells [.int .i64 c142_.gKind, .str c142_.gName, .int .i64 c142_.gNum, .sl (List.map GTerm.c c142_.gKids)] []), (4, .cells [.int .i64 0, .str (bs []), .int .i64 0, .sl (List.map GTerm.c [])] [(3, .app 41)]), (5, .cells [.int .i64 c142_.gKind, .str c142_.gName, .int .i64 c142_.gNum, .sl (List.map GTerm.c [])] [(3, .app 41)])], []⟩ _ (by kernel_rfl) .nil ?_
        rcases oif h with ⟨h120, h⟩ | ⟨h120, h⟩
        · refine Wc.condT h120 (by kernel_rfl) ?_
          obtain ⟨b149_, h121, h⟩ := obind h
          refine Wc.region [{}, {}, {}, { r := some (.v (.int .i64 b149_) []) }] [] [1, 2, 4, 5] [2, 4, 5] [] ⟨[(1, (.v (.func 113 []), [])), (2, (.ptr 2 0, [])), (4, (.ptr 4 0, [])), (5, (.ptr 5 0, []))], [(2, .cells [.int .i64 c142_.gKind, .str c142_.gName, .int .i64 c142_.gNum, .sl (List.map GTerm.c c142_.gKids)] []), (4, .cells [.int .i64 0, .str (bs []), .int .i64 0, .sl (List.map GTerm.c [])] [(3, .app 41)]), (5, .cells [.int .i64 c142_.gKind, .str c142_.gName, .int .i64 b149_, .sl (List.map GTerm.c [])] [(3, .app 41)])], []⟩ _ (by kernel_rfl) (.cons (cimpl_copyTerm_1 h121) .nil) ?_
          exact ⟨_, rfl, h⟩
        · refine Wc.condF h120 (by kernel_rfl) ?_
          refine Wc.fix (st' := ⟨[(1, (.v (.func 113 []), [])), (2, (.ptr 2 0, [])), (4, (.ptr 4 0, [])), (5, (.ptr 5 0, []))], [(2, .cells [.int .i64 c142_.gKind, .str c142_.gName, .int .i64 c142_.gNum, .sl (List.map GTerm.c c142_.gKids)] []), (4, .cells [.int .i64 0, .str (bs []), .int .i64 0, .sl (List.map GTerm.c [])] [(3, .app 41)]), (5, .cells [.int .i64 c142_.gKind, .str c142_.gName, .int .i64 c142_.gNum, .sl (List.map GTerm.c [])] [(3, .app 41)])], []⟩) [] [1, 2, 4, 5] [2, 4, 5] [] (by kernel_rfl) ?_
          refine Wc.skip ?_
          exact ⟨_, rfl, h⟩
      · rintro st ⟨c143_, rfl, h⟩
        refine Wc.seq ?_
        refine Wc.seq ?_
        refine Wc.region [{}, {}, { v := some (.int .i64 (c142_.gKids.length : Int)) }] [] [1, 4, 5, 19, 20, 21] [4, 5] [] ⟨[(1, (.v (.func 113 []), [])), (4, (.ptr 4 0, [])), (5, (.ptr 5 0, [])), (19, (.v (.sl (List.map GTerm.c c142_.gKids)), [])), (20, (.v (.int .i64 (c142_.gKids.length : Int)), [])), (21, (.v (.int .i64 0), []))], [(4, .cells [.int .i64 0, .str (bs []), .int .i64 0, .sl (List.map GTerm.c [])] [(3, .app 41)]), (5, .cells [.int .i64 c143_.gKind, .str c143_.gName, .int .i64 c143_.gNum, .sl (List.map GTerm.c c143_.gKids)] [(3, .app 41)])], []⟩ _ (by kernel_rfl) (.cons (len_obl GTerm.c c142_.gKids) .nil) ?_
        obtain ⟨out2, h115, h⟩ := obind h
        refine Wc.lastJ (fun st => ∃ (c146_ : GTerm), out2 = .done c146_ ∧ st = ⟨[(4, (.ptr 4 0, [])), (5, (.ptr 5 0, []))], [(4, .cells [.int .i64 0, .str (bs []), .int .i64 0, .sl (List.map GTerm.c [])] [(3, .app 41)]), (5, .cells [.int .i64 c146_.gKind, .str c146_.gName, .int .i64 c146_.gNum, .sl (List.map GTerm.c c146_.gKids)] [(3, .app 41)])], []⟩) ?_ ?_
        · refine Wc.block ?_
          refine Wc.loop (fun m st => ∃ (b144_ : Int) (c145_ : GTerm), st = ⟨[(1, (.v (.func 113 []), [])), (4, (.ptr 4 0, [])), (5, (.ptr 5 0, [])), (19, (.v (.sl (List.map GTerm.c c142_.gKids)), [])), (20, (.v (.int .i64 (c142_.gKids.length : Int)), [])), (21, (.v (.int .i64 b144_), []))], [(4, .cells [.int .i64 0, .str (bs []), .int .i64 0, .sl (List.map GTerm.c [])] [(3, .app 41)]), (5, .cells [.int .i64 c145_.gKind, .str c145_.gName, .int .i64 c145_.gNum, .sl (List.map GTerm.c c145_.gKids)] [(3, .app 41)])], []⟩ ∧ pimpl_renamed_on1_pimpl_copyTerm_1_L2 k (pimpl_renamed_on1_pimpl_copyTerm_1 k) c142_ m b144_ c145_ = some out2) ?_ k ⟨_, _, rfl, h115⟩
          rintro m st ⟨b144_, c145_, rfl, h115⟩
          cases m with
          | zero => exact (onone h115).elim
          | succ m =>
            refine Wc.seq ?_
            refine Wc.region [] [] [1, 4, 5, 19, 20, 21, 22] [4, 5] [] ⟨[(1, (.v (.func 113 []), [])), (4, (.ptr 4 0, [])), (5, (.ptr 5 0, [])), (19, (.v (.sl (List.map GTerm.c c142_.gKids)), [])), (20, (.v (.int .i64 (c142_.gKids.length : Int)), [])), (21, (.v (.int .i64 b144_), [])), (22, (.v (.bool (decide (b144_ < (c142_.gKids.length : Int)))), []))], [(4, .cells [.int .i64 0, .str (bs []), .int .i64 0, .sl (List.map GTerm.c [])] [(3, .app 41)]), (5, .cells [.int .i64 c145_.gKind, .str c145_.gName, .int .i64 c145_.gNum, .sl (List.map GTerm.c c145_.gKids)] [(3, .app 41)])], []⟩ _ (by kernel_rfl) .nil ?_
            refine Wc.seq ?_
            rcases oif h115 with ⟨h116, h115⟩ | ⟨h116, h115⟩
            · refine Wc.condT h116 (by kernel_rfl) ?_
              refine Wc.fix (st' := ⟨[(1, (.v (.func 113 []), [])), (4, (.ptr 4 0, [])), (5, (.ptr 5 0, [])), (19, (.v (.sl (List.map GTerm.c c142_.gKids)), [])), (20, (.v (.int .i64 (c142_.gKids.length : Int)), [])), (21, (.v (.int .i64 b144_), []))], [(4, .cells [.int .i64 0, .str (bs []), .int .i64 0, .sl (List.map GTerm.c [])] [(3, .app 41)]), (5, .cells [.int .i64 c145_.gKind, .str c145_.gName, .int .i64 c145_.gNum, .sl (List.map GTerm.c c145_.gKids)] [(3, .app 41)])], []⟩) [] [1, 4, 5, 19, 20, 21] [4, 5] [] (by kernel_rfl) ?_
              refine Wc.skip ?_
              refine Wc.seq ?_
              refine Wc.block ?_
              refine Wc.seq ?_
              obtain ⟨c147_, h117, h115⟩ := obind h115
              refine Wc.region [{ v := some (.vptr [.int .i64 c147_.gKind, .str c147_.gName, .int .i64 c147_.gNum, .sl (List.map GTerm.c c147_.gKids)]) }] [] [1, 4, 5, 7, 19, 20, 21] [4, 5, 7] [] ⟨[(1, (.v (.func 113 []), [])), (4, (.ptr 4 0, [])), (5, (.ptr 5 0, [])), (7, (.ptr 7 0, [])), (19, (.v (.sl (List.map GTerm.c c142_.gKids)), [])), (20, (.v (.int .i64 (c142_.gKids.length : Int)), [])), (21, (.v (.int .i64 b144_), []))], [(4, .cells [.int .i64 0, .str (bs []), .int .i64 0, .sl (List.map GTerm.c [])] [(3, .app 41)]), (5, .cells [.int .i64 c145_.gKind, .str c145_.gName, .int .i64 c145_.gNum, .sl (List.map GTerm.c c145_.gKids)] [(3, .app 41)]), (7, .cells [.int .i64 c147_.gKind, .str c147_.gName, .int .i64 c147_.gNum, .sl (List.map GTerm.c c147_.gKids)] [])], []⟩ _ (by kernel_rfl) (.cons (at_obl (c := GTerm.c) (GTerm.c_eq c147_) GTerm.c_len h117) (.cons (len_ok 4 [.int .i64 c147_.gKind, .str c147_.gName, .int .i64 c147_.gNum, .sl (List.map GTerm.c c147_.gKids)]) .nil)) ?_
              obtain ⟨c148_, h118, h115⟩ := obind h115
              obtain ⟨h119, h115⟩ := oguard h115
              refine Wc.draw hmix [{}, { md := 1 }, {}, {}, { r := some (.v (.agg [.int .i64 c148_.gKind, .str c148_.gName, .int .i64 c148_.gNum, .sl (List.map GTerm.c c148_.gKids)]) [(3, .app 41)]) }, { c := some (List.map GTerm.c [c148_]) }, { c := some (List.map GTerm.c (c145_.gKids ++ [c148_])), tk := [26] }, {}, { tk := [31] }] [] [1, 4, 5, 19, 20, 21] [4, 5] [] ⟨[(1, (.v (.func 113 []), [])), (4, (.ptr 4 0, [])), (5, (.ptr 5 0, [])), (19, (.v (.sl (List.map GTerm.c c142_.gKids)), [])), (20, (.v (.int .i64 (c142_.gKids.length : Int)), [])), (21, (.v (.int .i64 b144_), []))], [(4, .cells [.int .i64 0, .str (bs []), .int .i64 0, .sl (List.map GTerm.c [])] [(3, .app 41)]), (5, .cells [.int .i64 c145_.gKind, .str c145_.gName, .int .i64 c145_.gNum, .sl (List.map GTerm.c (c145_.gKids ++ [c148_]))] [(3, .app 41)])], []⟩ _ (by kernel_rfl) (fun X => by kernel_rfl) (.cons (ih_pimpl_renamed_on1_pimpl_copyTerm_1 h118) (.cons (cl_cons (c := GTerm.c) (x := c148_) (GTerm.c_eq c148_) (cl_nil GTerm.c)) (.cons (app_re2 GTerm.c c145_.gKids [c148_]) (.cons (app_leaf (c := GTerm.c) (ys := [c148_]) GTerm.c_leaf) (.cons (app_obl2 (c := GTerm.c) (xs := c145_.gKids) (ys := [c148_]) GTerm.c_len h119) .nil))))) ?_
              refine Wc.region [] [] [1, 4, 5, 19, 20, 21] [4, 5] [] ⟨[(1, (.v (.func 113 []), [])), (4, (.ptr 4 0, [])), (5, (.ptr 5 0, [])), (19, (.v (.sl (List.map GTerm.c c142_.gKids)), [])), (20, (.v (.int .i64 (c142_.gKids.length : Int)), [])), (21, (.v (.int .i64 (wr.i64 (b144_ + 1))), []))], [(4, .cells [.int .i64 0, .str (bs []), .int .i64 0, .sl (List.map GTerm.c [])] [(3, .app 41)]), (5, .cells [.int .i64 c145_.gKind, .str c145_.gName, .int .i64 c145_.gNum, .sl (List.map GTerm.c (c145_.gKids ++ [c148_]))] [(3, .app 41)])], []⟩ _ (by kernel_rfl) .nil ?_
              exact ⟨_, Nat.lt_succ_self _, _, _, rfl, h115⟩
            · refine Wc.condF h116 (by kernel_rfl) ?_
              refine Wc.fix (st' := ⟨[(4, (.ptr 4 0, [])), (5, (.ptr 5 0, []))], [(4, .cells [.int .i64 0, .str (bs []), .int .i64 0, .sl (List.map GTerm.c [])] [(3, .app 41)]), (5, .cells [.int .i64 c145_.gKind, .str c145_.gName, .int .i64 c145_.gNum, .sl (List.map GTerm.c c145_.gKids)] [(3, .app 41)])], []⟩) [] [4, 5] [4, 5] [] (by kernel_rfl) ?_
              refine Wc.exit ?_
              obtain rfl := Option.some.inj h115
              exact ⟨_, rfl, rfl⟩
        · rintro st ⟨c146_, rfl, rfl⟩
          refine Wc.seq ?_
          refine Wc.region [{ md := 1 }, { tk := [34] }] [] [4] [4] [] ⟨[(4, (.ptr 4 0, []))], [(4, .cells [.int .i64 c146_.gKind, .str c146_.gName, .int .i64 c146_.gNum, .sl (List.map GTerm.c c146_.gKids)] [(3, .app 41)])], []⟩ _ (by kernel_rfl) .nil ?_
          refine Wc.ret ?_
          obtain rfl := Option.some.inj h
          exact ⟨.inl rfl, by kernel_rfl, by kernel_rfl⟩
theorem cimpl_renamed_on1_pimpl_copyTerm_1 {k : Nat} {c142_ : GTerm} {r : GTerm} (h : pimpl_renamed_on1_pimpl_copyTerm_1 k c142_ = some r) : FnO Try.prog 112 [.v (.agg [.int .i64 c142_.gKind, .str c142_.gName, .int .i64 c142_.gNum, .sl (List.map GTerm.c c142_.gKids)]) [], .v (.func 113 []) []] (.v (.agg [.int .i64 r.gKind, .str r.gName, .int .i64 r.gNum, .sl (List.map GTerm.c r.gKids)]) [(3, .app 41)]) [] := (all_pimpl_renamed_on1_pimpl_copyTerm_1 k) h

/-- impl.copyTerm -/
def pimpl_copyTerm (k : Nat) (c135_ : GTerm) : Option GTerm :=
  (pimpl_renamed_on1_pimpl_copyTerm_1 k c135_).bind fun c136_ =>
  some c136_
theorem cimpl_copyTerm {k : Nat} {c135_ : GTerm} {r : GTerm} (h : pimpl_copyTerm k c135_ = some r) : FnO Try.prog 78 [.v (.agg [.int .i64 c135_.gKind, .str c135_.gName, .int .i64 c135_.gNum, .sl (List.map GTerm.c c135_.gKids)]) []] (.v (.agg [.int .i64 r.gKind, .str r.gName, .int .i64 r.gNum, .sl (List.map GTerm.c r.gKids)]) [(3, .app 41)]) [] := by
  refine FnO.of Try.func78 (rfl : Try.f78.body = some _) (Nat.le_of_ble_eq_true (by kernel_rfl)) (Nat.le_of_ble_eq_true (by kernel_rfl)) ?_
  intro w0 X0 Fin pv0 pb gt
  unfold pimpl_copyTerm at h
  refine Wc.seq ?_
  refine Wc.region [] [] [1, 2] [1, 2] [] ⟨[(1, (.ptr 1 0, [])), (2, (.ptr 2 0, []))], [(1, .cells [.int .i64 c135_.gKind, .str c135_.gName, .int .i64 c135_.gNum, .sl (List.map GTerm.c c135_.gKids)] []), (2, .cells [.int .i64 0, .str (bs []), .int .i64 0, .sl (List.map GTerm.c [])] [(3, .app 41)])], []⟩ _ (by kernel_rfl) .nil ?_
  refine Wc.seq ?_
  obtain ⟨c136_, h109, h⟩ := obind h
  refine Wc.region [{}, { r := some (.v (.agg [.int .i64 c136_.gKind, .str c136_.gName, .int .i64 c136_.gNum, .sl (List.map GTerm.c c136_.gKids)]) [(3, .app 41)]) }, { tk := [4] }] [] [2] [2] [] ⟨[(2, (.ptr 2 0, []))], [(2, .cells [.int .i64 c136_.gKind, .str c136_.gName, .int .i64 c136_.gNum, .sl (List.map GTerm.c c136_.gKids)] [(3, .app 41)])], []⟩ _ (by kernel_rfl) (.cons (cimpl_renamed_on1_pimpl_copyTerm_1 h109) .nil) ?_
  refine Wc.ret ?_
  obtain rfl := Option.some.inj h
  exact ⟨.inl rfl, by kernel_rfl, by kernel_rfl⟩

/-- impl.copyClause -/
def pimpl_copyClause (k : Nat) (d140_ : GClause) : Option GClause :=
  (pimpl_copyTerm k d140_.gHead).bind fun c141_ =>
  (pimpl_copyTerm k d140_.gBody).bind fun c142_ =>
  some (GClause.mk c141_ c142_ d140_.gFile)
theorem cimpl_copyClause {k : Nat} {d140_ : GClause} {r : GClause} (h : pimpl_copyClause k d140_ = some r) : FnO Try.prog 117 [.v (.agg [.int .i64 d140_.gHead.gKind, .str d140_.gHead.gName, .int .i64 d140_.gHead.gNum, .sl (List.map GTerm.c d140_.gHead.gKids), .int .i64 d140_.gBody.gKind, .str d140_.gBody.gName, .int .i64 d140_.gBody.gNum, .sl (List.map GTerm.c d140_.gBody.gKids), .str d140_.gFile]) []] (.v (.agg [.int .i64 r.gHead.gKind, .str r.gHead.gName, .int .i64 r.gHead.gNum, .sl (List.map GTerm.c r.gHead.gKids), .int .i64 r.gBody.gKind, .str r.gBody.gName, .int .i64 r.gBody.gNum, .sl (List.map GTerm.c r.gBody.gKids), .str r.gFile]) [(3, .app 41), (7, .app 41)]) [] := by
  refine FnO.of Try.func117 (rfl : Try.f117.body = some _) (Nat.le_of_ble_eq_true (by kernel_rfl)) (Nat.le_of_ble_eq_true (by kernel_rfl)) ?_
  intro w0 X0 Fin pv0 pb gt
  unfold pimpl_copyClause at h
  refine Wc.seq ?_
  refine Wc.region [] [] [1, 2] [1, 2] [] ⟨[(1, (.ptr 1 0, [])), (2, (.ptr 2 0, []))], [(1, .cells [.int .i64 d140_.gHead.gKind, .str d140_.gHead.gName, .int .i64 d140_.gHead.gNum, .sl (List.map GTerm.c d140_.gHead.gKids), .int .i64 d140_.gBody.gKind, .str d140_.gBody.gName, .int .i64 d140_.gBody.gNum, .sl (List.map GTerm.c d140_.gBody.gKids), .str d140_.gFile] []), (2, .cells [.int .i64 0, .str (bs []), .int .i64 0, .sl (List.map GTerm.c []), .int .i64 0, .str (bs []), .int .i64 0, .sl (List.map GTerm.c []), .str (bs [])] [(3, .app 41), (7, .app 41)])], []⟩ _ (by kernel_rfl) .nil ?_
  refine Wc.seq ?_
  obtain ⟨c141_, h112, h⟩ := obind h
  obtain ⟨c142_, h113, h⟩ := obind h
  refine Wc.draw hmix [{}, {}, { r := some (.v (.agg [.int .i64 c141_.gKind, .str c141_.gName, .int .i64 c141_.gNum, .sl (List.map GTerm.c c141_.gKids)]) [(3, .app 41)]) }, {}, {}, { r := some (.v (.agg [.int .i64 c142_.gKind, .str c142_.gName, .int .i64 c142_.gNum, .sl (List.map GTerm.c c142_.gKids)]) [(3, .app 41)]) }, {}, {}, { tk := [5, 8] }, { tk := [11] }] [] [2] [2] [] ⟨[(2, (.ptr 2 0, []))], [(2, .cells [.int .i64 c141_.gKind, .str c141_.gName, .int .i64 c141_.gNum, .sl (List.map GTerm.c c141_.gKids), .int .i64 c142_.gKind, .str c142_.gName, .int .i64 c142_.gNum, .sl (List.map GTerm.c c142_.gKids), .str d140_.gFile] [(3, .app 41), (7, .app 41)])], []⟩ _ (by kernel_rfl) (fun X => by kernel_rfl) (.cons (cimpl_copyTerm h112) (.cons (cimpl_copyTerm h113) .nil)) ?_
  refine Wc.ret ?_
  obtain rfl := Option.some.inj h
  exact ⟨.inl rfl, by kernel_rfl, by kernel_rfl⟩

def pimpl_copyClauses_L1 (k : Nat) (e149_ : List GClause) : Nat → (List GClause) → Int → Option (Out (List GClause) (List GClause))
  | 0, _, _ => none
  | m + 1, e150_, b151_ =>
    if (decide (b151_ < (e149_.length : Int))) = true then
      (at' e149_ b151_).bind fun d153_ =>
      (pimpl_copyClause k d153_).bind fun d154_ =>
      if e150_.length + [d154_].length ≤ 1073741824 then
        pimpl_copyClauses_L1 k e149_ m (e150_ ++ [d154_]) (wr.i64 (b151_ + 1))
      else none
    else
      some (.done e150_)
/-- impl.copyClauses -/
def pimpl_copyClauses (k : Nat) (e149_ : List GClause) : Option (List GClause) :=
  (pimpl_copyClauses_L1 k e149_ k [] 0).bind fun out1 => match out1 with
  | .ret r => some r
  | .done e152_ =>
    some e152_
theorem cimpl_copyClauses {k : Nat} {e149_ : List GClause} {r : (List GClause)} (h : pimpl_copyClauses k e149_ = some r) : FnO Try.prog 85 [.v (.sl (List.map GClause.c e149_)) []] (.v (.sl (List.map GClause.c r)) [(0, .app 70)]) [] := by
  refine FnO.of Try.func85 (rfl : Try.f85.body = some _) (Nat.le_of_ble_eq_true (by kernel_rfl)) (Nat.le_of_ble_eq_true (by kernel_rfl)) ?_
  intro w0 X0 Fin pv0 pb gt
  unfold pimpl_copyClauses at h
  refine Wc.seq ?_
  refine Wc.region [] [] [0] [] [] ⟨[(0, (.v (.sl (List.map GClause.c e149_)), []))], [], []⟩ _ (by kernel_rfl) .nil ?_
  refine Wc.seq ?_
  refine Wc.region [] [] [0, 3] [] [] ⟨[(0, (.v (.sl (List.map GClause.c e149_)), [])), (3, (.v (.sl (List.map GClause.c [])), [(0, .app 70)]))], [], []⟩ _ (by kernel_rfl) .nil ?_
  refine Wc.seq ?_
  refine Wc.seq ?_
  refine Wc.region [{}, { v := some (.int .i64 (e149_.length : Int)) }] [] [3, 6, 7, 8] [] [] ⟨[(3, (.v (.sl (List.map GClause.c [])), [(0, .app 70)])), (6, (.v (.sl (List.map GClause.c e149_)), [])), (7, (.v (.int .i64 (e149_.length : Int)), [])), (8, (.v (.int .i64 0), []))], [], []⟩ _ (by kernel_rfl) (.cons (len_obl GClause.c e149_) .nil) ?_
  obtain ⟨out1, h119, h⟩ := obind h
  refine Wc.lastJ (fun st => ∃ (e152_ : List GClause), out1 = .done e152_ ∧ st = ⟨[(3, (.v (.sl (List.map GClause.c e152_)), [(0, .app 70)]))], [], []⟩) ?_ ?_
  · refine Wc.block ?_
    refine Wc.loop (fun m st => ∃ (e150_ : List GClause) (b151_ : Int), st = ⟨[(3, (.v (.sl (List.map GClause.c e150_)), [(0, .app 70)])), (6, (.v (.sl (List.map GClause.c e149_)), [])), (7, (.v (.int .i64 (e149_.length : Int)), [])), (8, (.v (.int .i64 b151_), []))], [], []⟩ ∧ pimpl_copyClauses_L1 k e149_ m e150_ b151_ = some out1) ?_ k ⟨_, _, rfl, h119⟩
    rintro m st ⟨e150_, b151_, rfl, h119⟩
    cases m with
    | zero => exact (onone h119).elim
    | succ m =>
      refine Wc.seq ?_
      refine Wc.region [] [] [3, 6, 7, 8, 9] [] [] ⟨[(3, (.v (.sl (List.map GClause.c e150_)), [(0, .app 70)])), (6, (.v (.sl (List.map GClause.c e149_)), [])), (7, (.v (.int .i64 (e149_.length : Int)), [])), (8, (.v (.int .i64 b151_), [])), (9, (.v (.bool (decide (b151_ < (e149_.length : Int)))), []))], [], []⟩ _ (by kernel_rfl) .nil ?_
      refine Wc.seq ?_
      rcases oif h119 with ⟨h120, h119⟩ | ⟨h120, h119⟩
      · refine Wc.condT h120 (by kernel_rfl) ?_
        refine Wc.fix (st' := ⟨[(3, (.v (.sl (List.map GClause.c e150_)), [(0, .app 70)])), (6, (.v (.sl (List.map GClause.c e149_)), [])), (7, (.v (.int .i64 (e149_.length : Int)), [])), (8, (.v (.int .i64 b151_), []))], [], []⟩) [] [3, 6, 7, 8] [] [] (by kernel_rfl) ?_
        refine Wc.skip ?_
        refine Wc.seq ?_
        refine Wc.block ?_
        refine Wc.seq ?_
        obtain ⟨d153_, h121, h119⟩ := obind h119
        refine Wc.region [{ v := some (.vptr [.int .i64 d153_.gHead.gKind, .str d153_.gHead.gName, .int .i64 d153_.gHead.gNum, .sl (List.map GTerm.c d153_.gHead.gKids), .int .i64 d153_.gBody.gKind, .str d153_.gBody.gName, .int .i64 d153_.gBody.gNum, .sl (List.map GTerm.c d153_.gBody.gKids), .str d153_.gFile]) }] [] [3, 5, 6, 7, 8] [5] [] ⟨[(3, (.v (.sl (List.map GClause.c e150_)), [(0, .app 70)])), (5, (.ptr 5 0, [])), (6, (.v (.sl (List.map GClause.c e149_)), [])), (7, (.v (.int .i64 (e149_.length : Int)), [])), (8, (.v (.int .i64 b151_), []))], [(5, .cells [.int .i64 d153_.gHead.gKind, .str d153_.gHead.gName, .int .i64 d153_.gHead.gNum, .sl (List.map GTerm.c d153_.gHead.gKids), .int .i64 d153_.gBody.gKind, .str d153_.gBody.gName, .int .i64 d153_.gBody.gNum, .sl (List.map GTerm.c d153_.gBody.gKids), .str d153_.gFile] [])], []⟩ _ (by kernel_rfl) (.cons (at_obl (c := GClause.c) (GClause.c_eq d153_) GClause.c_len h121) (.cons (len_ok 9 [.int .i64 d153_.gHead.gKind, .str d153_.gHead.gName, .int .i64 d153_.gHead.gNum, .sl (List.map GTerm.c d153_.gHead.gKids), .int .i64 d153_.gBody.gKind, .str d153_.gBody.gName, .int .i64 d153_.gBody.gNum, .sl (List.map GTerm.c d153_.gBody.gKids), .str d153_.gFile]) .nil)) ?_
        obtain ⟨d154_, h122, h119⟩ := obind h119
        obtain ⟨h123, h119⟩ := oguard h119
        refine Wc.region [{ tk := [3] }, {}, { r := some (.v (.agg [.int .i64 d154_.gHead.gKind, .str d154_.gHead.gName, .int .i64 d154_.gHead.gNum, .sl (List.map GTerm.c d154_.gHead.gKids), .int .i64 d154_.gBody.gKind, .str d154_.gBody.gName, .int .i64 d154_.gBody.gNum, .sl (List.map GTerm.c d154_.gBody.gKids), .str d154_.gFile]) [(3, .app 41), (7, .app 41)]) }, { c := some (List.map GClause.c [d154_]) }, { c := some (List.map GClause.c (e150_ ++ [d154_])), tk := [12] }, { tk := [16] }] [] [3, 6, 7, 8] [] [] ⟨[(3, (.v (.sl (List.map GClause.c (e150_ ++ [d154_]))), [(0, .app 70)])), (6, (.v (.sl (List.map GClause.c e149_)), [])), (7, (.v (.int .i64 (e149_.length : Int)), [])), (8, (.v (.int .i64 b151_), []))], [], []⟩ _ (by kernel_rfl) (.cons (cimpl_copyClause h122) (.cons (cl_cons (c := GClause.c) (x := d154_) (GClause.c_eq d154_) (cl_nil GClause.c)) (.cons (app_re2 GClause.c e150_ [d154_]) (.cons (app_leaf (c := GClause.c) (ys := [d154_]) GClause.c_leaf) (.cons (app_obl2 (c := GClause.c) (xs := e150_) (ys := [d154_]) GClause.c_len h123) .nil))))) ?_
        refine Wc.region [] [] [3, 6, 7, 8] [] [] ⟨[(3, (.v (.sl (List.map GClause.c (e150_ ++ [d154_]))), [(0, .app 70)])), (6, (.v (.sl (List.map GClause.c e149_)), [])), (7, (.v (.int .i64 (e149_.length : Int)), [])), (8, (.v (.int .i64 (wr.i64 (b151_ + 1))), []))], [], []⟩ _ (by kernel_rfl) .nil ?_
        exact ⟨_, Nat.lt_succ_self _, _, _, rfl, h119⟩
      · refine Wc.condF h120 (by kernel_rfl) ?_
        refine Wc.fix (st' := ⟨[(3, (.v (.sl (List.map GClause.c e150_)), [(0, .app 70)]))], [], []⟩) [] [3] [] [] (by kernel_rfl) ?_
        refine Wc.exit ?_
        obtain rfl := Option.some.inj h119
        exact ⟨_, rfl, rfl⟩
  · rintro st ⟨e152_, rfl, rfl⟩
    refine Wc.seq ?_
    refine Wc.region [{ tk := [3] }, { tk := [18] }] [] [2] [] [] ⟨[(2, (.v (.sl (List.map GClause.c e152_)), [(0, .app 70)]))], [], []⟩ _ (by kernel_rfl) .nil ?_
    refine Wc.ret ?_
    obtain rfl := Option.some.inj h
    exact ⟨.inl rfl, by kernel_rfl, by kernel_rfl⟩

/-- impl.copyDb -/
def pimpl_copyDb (k : Nat) (i157_ : GDb) : Option GDb :=
  (pimpl_copyClauses k i157_.gClauses).bind fun l158_ =>
  if ([] : List ByteArray).length + i157_.gOpen.length ≤ 1073741824 then
    some (GDb.mk l158_ i157_.gOpen)
  else none
theorem cimpl_copyDb {k : Nat} {i157_ : GDb} {r : GDb} (h : pimpl_copyDb k i157_ = some r) : FnO Try.prog 41 [.v (.agg [.sl (List.map GClause.c i157_.gClauses), .sl (List.map cS i157_.gOpen)]) []] (.v (.agg [.sl (List.map GClause.c r.gClauses), .sl (List.map cS r.gOpen)]) [(0, .app 70), (1, .app 9)]) [] := by
  refine FnO.of Try.func41 (rfl : Try.f41.body = some _) (Nat.le_of_ble_eq_true (by kernel_rfl)) (Nat.le_of_ble_eq_true (by kernel_rfl)) ?_
  intro w0 X0 Fin pv0 pb gt
  unfold pimpl_copyDb at h
  refine Wc.seq ?_
  refine Wc.region [] [] [1, 2] [1, 2] [] ⟨[(1, (.ptr 1 0, [])), (2, (.ptr 2 0, []))], [(1, .cells [.sl (List.map GClause.c i157_.gClauses), .sl (List.map cS i157_.gOpen)] []), (2, .cells [.sl (List.map GClause.c []), .sl (List.map cS [])] [(0, .app 70), (1, .app 9)])], []⟩ _ (by kernel_rfl) .nil ?_
  refine Wc.seq ?_
  obtain ⟨l158_, h126, h⟩ := obind h
  obtain ⟨h127, h⟩ := oguard h
  refine Wc.draw hmix [{}, {}, { r := some (.v (.sl (List.map GClause.c l158_)) [(0, .app 70)]) }, {}, {}, { c := some (List.map cS i157_.gOpen) }, { tk := [5, 8] }, { tk := [9] }] [] [2] [2] [] ⟨[(2, (.ptr 2 0, []))], [(2, .cells [.sl (List.map GClause.c l158_), .sl (List.map cS i157_.gOpen)] [(0, .app 70), (1, .app 9)])], []⟩ _ (by kernel_rfl) (fun X => by kernel_rfl) (.cons (cimpl_copyClauses h126) (.cons (app_re0 cS i157_.gOpen) (.cons (app_leaf (c := cS) (ys := i157_.gOpen) cS_leaf) (.cons (app_obl2 (c := cS) (xs := []) (ys := i157_.gOpen) cS_len h127) .nil)))) ?_
  refine Wc.ret ?_
  obtain rfl := Option.some.inj h
  exact ⟨.inl rfl, by kernel_rfl, by kernel_rfl⟩

def plaws_eqTermS_L1 (k : Nat) (rlaws_eqTerm : GTerm → GTerm → Option Bool) (rlaws_eqTermS : (List GTerm) → (List GTerm) → Option Bool) (a165_ : List GTerm) (a166_ : List GTerm) : Nat → Int → Option (Out Bool Unit)
  | 0, _ => none
  | m + 1, b167_ =>
    if (decide (b167_ < (a165_.length : Int))) = true then
      (at' a165_ b167_).bind fun c168_ =>
      (at' a166_ b167_).bind fun c169_ =>
      (rlaws_eqTerm c168_ c169_).bind fun n170_ =>
      if (!n170_) = true then
        some (.ret false)
      else
        plaws_eqTermS_L1 k rlaws_eqTerm rlaws_eqTermS a165_ a166_ m (wr.i64 (b167_ + 1))
    else
      some (.done ())
mutual
/-- laws.eqTerm -/
def plaws_eqTerm : Nat → GTerm → GTerm → Option Bool
  | 0, _, _ => none
  | k + 1, c162_, c163_ =>
    if (c162_.gKind != c163_.gKind) = true then
      some false
    else
      if (!(sEq c162_.gName c163_.gName)) = true then
        some false
      else
        if (c162_.gNum != c163_.gNum) = true then
          some false
        else
          (plaws_eqTermS k c162_.gKids c163_.gKids).bind fun n164_ =>
          if (!n164_) = true then
            some false
          else
            some true
/-- laws.eqTermS -/
def plaws_eqTermS : Nat → (List GTerm) → (List GTerm) → Option Bool
  | 0, _, _ => none
  | k + 1, a165_, a166_ =>
    if ((a165_.length : Int) != (a166_.length : Int)) = true then
      some false
    else
      (plaws_eqTermS_L1 k (plaws_eqTerm k) (plaws_eqTermS k) a165_ a166_ k 0).bind fun out1 => match out1 with
      | .ret r => some r
      | .done () =>
        some true
end
set_option maxHeartbeats 4000000 in
theorem all_plaws_eqTerm : ∀ k : Nat, (∀ {c162_ : GTerm} {c163_ : GTerm} {r : Bool}, plaws_eqTerm k c162_ c163_ = some r → FnO Try.prog 118 [.v (.agg [.int .i64 c162_.gKind, .str c162_.gName, .int .i64 c162_.gNum, .sl (List.map GTerm.c c162_.gKids)]) [], .v (.agg [.int .i64 c163_.gKind, .str c163_.gName, .int .i64 c163_.gNum, .sl (List.map GTerm.c c163_.gKids)]) []] (.v (.bool r) []) []) ∧
    (∀ {a165_ : List GTerm} {a166_ : List GTerm} {r : Bool}, plaws_eqTermS k a165_ a166_ = some r → FnO Try.prog 133 [.v (.sl (List.map GTerm.c a165_)) [], .v (.sl (List.map GTerm.c a166_)) []] (.v (.bool r) []) []) := by
  intro k
  induction k with
  | zero =>
    refine ⟨?_, ?_⟩
    · intro c162_ c163_ r h
      exact (onone (by rw [plaws_eqTerm] at h; exact h)).elim
    · intro a165_ a166_ r h
      exact (onone (by rw [plaws_eqTermS] at h; exact h)).elim
  | succ k ih =>
    obtain ⟨ih_plaws_eqTerm, ih_plaws_eqTermS⟩ := ih
    refine ⟨?_, ?_⟩
    · intro c162_ c163_ r h
      rw [plaws_eqTerm] at h
      refine FnO.of Try.func118 (rfl : Try.f118.body = some _) (Nat.le_of_ble_eq_true (by kernel_rfl)) (Nat.le_of_ble_eq_true (by kernel_rfl)) ?_
      intro w0 X0 Fin pv0 pb gt
      refine Wc.seq ?_
      refine Wc.region [] [] [2, 3] [2, 3] [] ⟨[(2, (.ptr 2 0, [])), (3, (.ptr 3 0, []))], [(2, .cells [.int .i64 c162_.gKind, .str c162_.gName, .int .i64 c162_.gNum, .sl (List.map GTerm.c c162_.gKids)] []), (3, .cells [.int .i64 c163_.gKind, .str c163_.gName, .int .i64 c163_.gNum, .sl (List.map GTerm.c c163_.gKids)] [])], []⟩ _ (by kernel_rfl) .nil ?_
      refine Wc.seq ?_
      refine Wc.seq ?_
      refine Wc.region [] [] [2, 3, 9] [2, 3] [] ⟨[(2, (.ptr 2 0, [])), (3, (.ptr 3 0, [])), (9, (.v (.bool (c162_.gKind != c163_.gKind)), []))], [(2, .cells [.int .i64 c162_.gKind, .str c162_.gName, .int .i64 c162_.gNum, .sl (List.map GTerm.c c162_.gKids)] []), (3, .cells [.int .i64 c163_.gKind, .str c163_.gName, .int .i64 c163_.gNum, .sl (List.map GTerm.c c163_.gKids)] [])], []⟩ _ (by kernel_rfl) .nil ?_
      rcases oif h with ⟨h129, h⟩ | ⟨h129, h⟩
      · refine Wc.condT h129 (by kernel_rfl) ?_
        refine Wc.seq ?_
        refine Wc.region [] [] [4] [] [] ⟨[(4, (.v (.bool false), []))], [], []⟩ _ (by kernel_rfl) .nil ?_
        refine Wc.ret ?_
        obtain rfl := Option.some.inj h
        exact ⟨.inl rfl, by kernel_rfl, by kernel_rfl⟩
      · refine Wc.condF h129 (by kernel_rfl) ?_
        refine Wc.fix (st' := ⟨[(2, (.ptr 2 0, [])), (3, (.ptr 3 0, []))], [(2, .cells [.int .i64 c162_.gKind, .str c162_.gName, .int .i64 c162_.gNum, .sl (List.map GTerm.c c162_.gKids)] []), (3, .cells [.int .i64 c163_.gKind, .str c163_.gName, .int .i64 c163_.gNum, .sl (List.map GTerm.c c163_.gKids)] [])], []⟩) [] [2, 3] [2, 3] [] (by kernel_rfl) ?_
        refine Wc.skip ?_
        refine Wc.seq ?_
        refine Wc.seq ?_
        refine Wc.region [] [] [2, 3, 14] [2, 3] [] ⟨[(2, (.ptr 2 0, [])), (3, (.ptr 3 0, [])), (14, (.v (.bool (!(sEq c162_.gName c163_.gName))), []))], [(2, .cells [.int .i64 c162_.gKind, .str c162_.gName, .int .i64 c162_.gNum, .sl (List.map GTerm.c c162_.gKids)] []), (3, .cells [.int .i64 c163_.gKind, .str c163_.gName, .int .i64 c163_.gNum, .sl (List.map GTerm.c c163_.gKids)] [])], []⟩ _ (by kernel_rfl) .nil ?_
        rcases oif h with ⟨h130, h⟩ | ⟨h130, h⟩
        · refine Wc.condT h130 (by kernel_rfl) ?_
          refine Wc.seq ?_
          refine Wc.region [] [] [4] [] [] ⟨[(4, (.v (.bool false), []))], [], []⟩ _ (by kernel_rfl) .nil ?_
          refine Wc.ret ?_
          obtain rfl := Option.some.inj h
          exact ⟨.inl rfl, by kernel_rfl, by kernel_rfl⟩
        · refine Wc.condF h130 (by kernel_rfl) ?_
          refine Wc.fix (st' := ⟨[(2, (.ptr 2 0, [])), (3, (.ptr 3 0, []))], [(2, .cells [.int .i64 c162_.gKind, .str c162_.gName, .int .i64 c162_.gNum, .sl (List.map GTerm.c c162_.gKids)] []), (3, .cells [.int .i64 c163_.gKind, .str c163_.gName, .int .i64 c163_.gNum, .sl (List.map GTerm.c c163_.gKids)] [])], []⟩) [] [2, 3] [2, 3] [] (by kernel_rfl) ?_
          refine Wc.skip ?_
          refine Wc.seq ?_
          refine Wc.seq ?_
          refine Wc.region [] [] [2, 3, 19] [2, 3] [] ⟨[(2, (.ptr 2 0, [])), (3, (.ptr 3 0, [])), (19, (.v (.bool (c162_.gNum != c163_.gNum)), []))], [(2, .cells [.int .i64 c162_.gKind, .str c162_.gName, .int .i64 c162_.gNum, .sl (List.map GTerm.c c162_.gKids)] []), (3, .cells [.int .i64 c163_.gKind, .str c163_.gName, .int .i64 c163_.gNum, .sl (List.map GTerm.c c163_.gKids)] [])], []⟩ _ (by kernel_rfl) .nil ?_
          rcases oif h with ⟨h131, h⟩ | ⟨h131, h⟩
          · refine Wc.condT h131 (by kernel_rfl) ?_
            refine Wc.seq ?_
            refine Wc.region [] [] [4] [] [] ⟨[(4, (.v (.bool false), []))], [], []⟩ _ (by kernel_rfl) .nil ?_
            refine Wc.ret ?_
            obtain rfl := Option.some.inj h
            exact ⟨.inl rfl, by kernel_rfl, by kernel_rfl⟩
          · refine Wc.condF h131 (by kernel_rfl) ?_
            refine Wc.fix (st' := ⟨[(2, (.ptr 2 0, [])), (3, (.ptr 3 0, []))], [(2, .cells [.int .i64 c162_.gKind, .str c162_.gName, .int .i64 c162_.gNum, .sl (List.map GTerm.c c162_.gKids)] []), (3, .cells [.int .i64 c163_.gKind, .str c163_.gName, .int .i64 c163_.gNum, .sl (List.map GTerm.c c163_.gKids)] [])], []⟩) [] [2, 3] [2, 3] [] (by kernel_rfl) ?_
            refine Wc.skip ?_
            refine Wc.seq ?_
            refine Wc.seq ?_
            obtain ⟨n164_, h132, h⟩ := obind h
            refine Wc.region [{}, {}, {}, {}, { r := some (.v (.bool n164_) []) }] [] [25] [] [] ⟨[(25, (.v (.bool (!n164_)), []))], [], []⟩ _ (by kernel_rfl) (.cons (ih_plaws_eqTermS h132) .nil) ?_
            rcases oif h with ⟨h133, h⟩ | ⟨h133, h⟩
            · refine Wc.condT h133 (by kernel_rfl) ?_
              refine Wc.seq ?_
              refine Wc.region [] [] [4] [] [] ⟨[(4, (.v (.bool false), []))], [], []⟩ _ (by kernel_rfl) .nil ?_
              refine Wc.ret ?_
              obtain rfl := Option.some.inj h
              exact ⟨.inl rfl, by kernel_rfl, by kernel_rfl⟩
            · refine Wc.condF h133 (by kernel_rfl) ?_
              refine Wc.fix (st' := ⟨[], [], []⟩) [] [] [] [] (by kernel_rfl) ?_
              refine Wc.skip ?_
              refine Wc.seq ?_
              refine Wc.region [] [] [4] [] [] ⟨[(4, (.v (.bool true), []))], [], []⟩ _ (by kernel_rfl) .nil ?_
              refine Wc.ret ?_
              obtain rfl := Option.some.inj h
              exact ⟨.inl rfl, by kernel_rfl, by kernel_rfl⟩
    · intro a165_ a166_ r h
      rw [plaws_eqTermS] at h
      refine FnO.of Try.func133 (rfl : Try.f133.body = some _) (Nat.le_of_ble_eq_true (by kernel_rfl)) (Nat.le_of_ble_eq_true (by kernel_rfl)) ?_
      intro w0 X0 Fin pv0 pb gt
      refine Wc.seq ?_
      refine Wc.region [] [] [0, 1] [] [] ⟨[(0, (.v (.sl (List.map GTerm.c a165_)), [])), (1, (.v (.sl (List.map GTerm.c a166_)), []))], [], []⟩ _ (by kernel_rfl) .nil ?_
      refine Wc.seq ?_
      refine Wc.seq ?_
      refine Wc.region [{}, { v := some (.int .i64 (a165_.length : Int)) }, {}, { v := some (.int .i64 (a166_.length : Int)) }] [] [0, 1, 10] [] [] ⟨[(0, (.v (.sl (List.map GTerm.c a165_)), [])), (1, (.v (.sl (List.map GTerm.c a166_)), [])), (10, (.v (.bool ((a165_.length : Int) != (a166_.length : Int))), []))], [], []⟩ _ (by kernel_rfl) (.cons (len_obl GTerm.c a165_) (.cons (len_obl GTerm.c a166_) .nil)) ?_
      rcases oif h with ⟨h134, h⟩ | ⟨h134, h⟩
      · refine Wc.condT h134 (by kernel_rfl) ?_
        refine Wc.seq ?_
        refine Wc.region [] [] [4] [] [] ⟨[(4, (.v (.bool false), []))], [], []⟩ _ (by kernel_rfl) .nil ?_
        refine Wc.ret ?_
        obtain rfl := Option.some.inj h
        exact ⟨.inl rfl, by kernel_rfl, by kernel_rfl⟩
      · refine Wc.condF h134 (by kernel_rfl) ?_
        refine Wc.fix (st' := ⟨[(0, (.v (.sl (List.map GTerm.c a165_)), [])), (1, (.v (.sl (List.map GTerm.c a166_)), []))], [], []⟩) [] [0, 1] [] [] (by kernel_rfl) ?_
        refine Wc.skip ?_
        refine Wc.seq ?_
        refine Wc.seq ?_
        refine Wc.region [] [] [0, 1, 5] [] [] ⟨[(0, (.v (.sl (List.map GTerm.c a165_)), [])), (1, (.v (.sl (List.map GTerm.c a166_)), [])), (5, (.v (.int .i64 0), []))], [], []⟩ _ (by kernel_rfl) .nil ?_
        obtain ⟨out1, h135, h⟩ := obind h
        refine Wc.lastJ (fun st => out1 = .done () ∧ st = ⟨[], [], []⟩) ?_ ?_
        · refine Wc.block ?_
          refine Wc.loop (fun m st => ∃ (b167_ : Int), st = ⟨[(0, (.v (.sl (List.map GTerm.c a165_)), [])), (1, (.v (.sl (List.map GTerm.c a166_)), [])), (5, (.v (.int .i64 b167_), []))], [], []⟩ ∧ plaws_eqTermS_L1 k (plaws_eqTerm k) (plaws_eqTermS k) a165_ a166_ m b167_ = some out1) ?_ k ⟨_, rfl, h135⟩
          rintro m st ⟨b167_, rfl, h135⟩
          cases m with
          | zero => exact (onone h135).elim
          | succ m =>
            refine Wc.seq ?_
            refine Wc.seq ?_
            refine Wc.region [{}, {}, { v := some (.int .i64 (a165_.length : Int)) }] [] [0, 1, 5, 14] [] [] ⟨[(0, (.v (.sl (List.map GTerm.c a165_)), [])), (1, (.v (.sl (List.map GTerm.c a166_)), [])), (5, (.v (.int .i64 b167_), [])), (14, (.v (.bool (decide (b167_ < (a165_.length : Int)))), []))], [], []⟩ _ (by kernel_rfl) (.cons (len_obl GTerm.c a165_) .nil) ?_
            rcases oif h135 with ⟨h136, h135⟩ | ⟨h136, h135⟩
            · refine Wc.condT h136 (by kernel_rfl) ?_
              refine Wc.fix (st' := ⟨[(0, (.v (.sl (List.map GTerm.c a165_)), [])), (1, (.v (.sl (List.map GTerm.c a166_)), [])), (5, (.v (.int .i64 b167_), []))], [], []⟩) [] [0, 1, 5] [] [] (by kernel_rfl) ?_
              refine Wc.skip ?_
              refine Wc.seq ?_
              refine Wc.block ?_
              refine Wc.seq ?_
              obtain ⟨c168_, h137, h135⟩ := obind h135
              obtain ⟨c169_, h138, h135⟩ := obind h135
              obtain ⟨n170_, h139, h135⟩ := obind h135
              refine Wc.draw hmix [{}, {}, { v := some (.vptr [.int .i64 c168_.gKind, .str c168_.gName, .int .i64 c168_.gNum, .sl (List.map GTerm.c c168_.gKids)]) }, {}, {}, {}, { v := some (.vptr [.int .i64 c169_.gKind, .str c169_.gName, .int .i64 c169_.gNum, .sl (List.map GTerm.c c169_.gKids)]) }, {}, { r := some (.v (.bool n170_) []) }] [] [0, 1, 5, 26] [] [] ⟨[(0, (.v (.sl (List.map GTerm.c a165_)), [])), (1, (.v (.sl (List.map GTerm.c a166_)), [])), (5, (.v (.int .i64 b167_), [])), (26, (.v (.bool (!n170_)), []))], [], []⟩ _ (by kernel_rfl) (fun X => by kernel_rfl) (.cons (at_obl (c := GTerm.c) (GTerm.c_eq c168_) GTerm.c_len h137) (.cons (len_ok 4 [.int .i64 c168_.gKind, .str c168_.gName, .int .i64 c168_.gNum, .sl (List.map GTerm.c c168_.gKids)]) (.cons (at_obl (c := GTerm.c) (GTerm.c_eq c169_) GTerm.c_len h138) (.cons (len_ok 4 [.int .i64 c169_.gKind, .str c169_.gName, .int .i64 c169_.gNum, .sl (List.map GTerm.c c169_.gKids)]) (.cons (ih_plaws_eqTerm h139) .nil))))) ?_
              rcases oif h135 with ⟨h140, h135⟩ | ⟨h140, h135⟩
              · refine Wc.condT h140 (by kernel_rfl) ?_
                refine Wc.seq ?_
                refine Wc.region [] [] [4] [] [] ⟨[(4, (.v (.bool false), []))], [], []⟩ _ (by kernel_rfl) .nil ?_
                refine Wc.ret ?_
                obtain rfl := Option.some.inj h135
                obtain rfl := Option.some.inj h
                exact ⟨.inl rfl, by kernel_rfl, by kernel_rfl⟩
              · refine Wc.condF h140 (by kernel_rfl) ?_
                refine Wc.fix (st' := ⟨[(0, (.v (.sl (List.map GTerm.c a165_)), [])), (1, (.v (.sl (List.map GTerm.c a166_)), [])), (5, (.v (.int .i64 b167_), []))], [], []⟩) [] [0, 1, 5] [] [] (by kernel_rfl) ?_
                refine Wc.skip ?_
                refine Wc.region [] [] [0, 1, 5] [] [] ⟨[(0, (.v (.sl (List.map GTerm.c a165_)), [])), (1, (.v (.sl (List.map GTerm.c a166_)), [])), (5, (.v (.int .i64 (wr.i64 (b167_ + 1))), []))], [], []⟩ _ (by kernel_rfl) .nil ?_
                exact ⟨_, Nat.lt_succ_self _, _, rfl, h135⟩
            · refine Wc.condF h136 (by kernel_rfl) ?_
              refine Wc.fix (st' := ⟨[], [], []⟩) [] [] [] [] (by kernel_rfl) ?_
              refine Wc.exit ?_
              obtain rfl := Option.some.inj h135
              exact ⟨rfl, rfl⟩
        · rintro st ⟨rfl, rfl⟩
          refine Wc.seq ?_
          refine Wc.region [] [] [4] [] [] ⟨[(4, (.v (.bool true), []))], [], []⟩ _ (by kernel_rfl) .nil ?_
          refine Wc.ret ?_
          obtain rfl := Option.some.inj h
          exact ⟨.inl rfl, by kernel_rfl, by kernel_rfl⟩
theorem claws_eqTerm {k : Nat} {c162_ : GTerm} {c163_ : GTerm} {r : Bool} (h : plaws_eqTerm k c162_ c163_ = some r) : FnO Try.prog 118 [.v (.agg [.int .i64 c162_.gKind, .str c162_.gName, .int .i64 c162_.gNum, .sl (List.map GTerm.c c162_.gKids)]) [], .v (.agg [.int .i64 c163_.gKind, .str c163_.gName, .int .i64 c163_.gNum, .sl (List.map GTerm.c c163_.gKids)]) []] (.v (.bool r) []) [] := (all_plaws_eqTerm k).1 h
theorem claws_eqTermS {k : Nat} {a165_ : List GTerm} {a166_ : List GTerm} {r : Bool} (h : plaws_eqTermS k a165_ a166_ = some r) : FnO Try.prog 133 [.v (.sl (List.map GTerm.c a165_)) [], .v (.sl (List.map GTerm.c a166_)) []] (.v (.bool r) []) [] := (all_plaws_eqTerm k).2 h

/-- laws.eqClause -/
def plaws_eqClause (k : Nat) (d171_ : GClause) (d172_ : GClause) : Option Bool :=
  (plaws_eqTerm k d171_.gHead d172_.gHead).bind fun n173_ =>
  if (!n173_) = true then
    some false
  else
    (plaws_eqTerm k d171_.gBody d172_.gBody).bind fun n174_ =>
    if (!n174_) = true then
      some false
    else
      if (!(sEq d171_.gFile d172_.gFile)) = true then
        some false
      else
        some true
theorem claws_eqClause {k : Nat} {d171_ : GClause} {d172_ : GClause} {r : Bool} (h : plaws_eqClause k d171_ d172_ = some r) : FnO Try.prog 87 [.v (.agg [.int .i64 d171_.gHead.gKind, .str d171_.gHead.gName, .int .i64 d171_.gHead.gNum, .sl (List.map GTerm.c d171_.gHead.gKids), .int .i64 d171_.gBody.gKind, .str d171_.gBody.gName, .int .i64 d171_.gBody.gNum, .sl (List.map GTerm.c d171_.gBody.gKids), .str d171_.gFile]) [], .v (.agg [.int .i64 d172_.gHead.gKind, .str d172_.gHead.gName, .int .i64 d172_.gHead.gNum, .sl (List.map GTerm.c d172_.gHead.gKids), .int .i64 d172_.gBody.gKind, .str d172_.gBody.gName, .int .i64 d172_.gBody.gNum, .sl (List.map GTerm.c d172_.gBody.gKids), .str d172_.gFile]) []] (.v (.bool r) []) [] := by
  refine FnO.of Try.func87 (rfl : Try.f87.body = some _) (Nat.le_of_ble_eq_true (by kernel_rfl)) (Nat.le_of_ble_eq_true (by kernel_rfl)) ?_
  intro w0 X0 Fin pv0 pb gt
  unfold plaws_eqClause at h
  refine Wc.seq ?_
  refine Wc.region [] [] [2, 3] [2, 3] [] ⟨[(2, (.ptr 2 0, [])), (3, (.ptr 3 0, []))], [(2, .cells [.int .i64 d171_.gHead.gKind, .str d171_.gHead.gName, .int .i64 d171_.gHead.gNum, .sl (List.map GTerm.c d171_.gHead.gKids), .int .i64 d171_.gBody.gKind, .str d171_.gBody.gName, .int .i64 d171_.gBody.gNum, .sl (List.map GTerm.c d171_.gBody.gKids), .str d171_.gFile] []), (3, .cells [.int .i64 d172_.gHead.gKind, .str d172_.gHead.gName, .int .i64 d172_.gHead.gNum, .sl (List.map GTerm.c d172_.gHead.gKids), .int .i64 d172_.gBody.gKind, .str d172_.gBody.gName, .int .i64 d172_.gBody.gNum, .sl (List.map GTerm.c d172_.gBody.gKids), .str d172_.gFile] [])], []⟩ _ (by kernel_rfl) .nil ?_
  refine Wc.seq ?_
  refine Wc.seq ?_
  obtain ⟨n173_, h141, h⟩ := obind h
  refine Wc.region [{}, {}, {}, {}, { r := some (.v (.bool n173_) []) }] [] [2, 3, 10] [2, 3] [] ⟨[(2, (.ptr 2 0, [])), (3, (.ptr 3 0, [])), (10, (.v (.bool (!n173_)), []))], [(2, .cells [.int .i64 d171_.gHead.gKind, .str d171_.gHead.gName, .int .i64 d171_.gHead.gNum, .sl (List.map GTerm.c d171_.gHead.gKids), .int .i64 d171_.gBody.gKind, .str d171_.gBody.gName, .int .i64 d171_.gBody.gNum, .sl (List.map GTerm.c d171_.gBody.gKids), .str d171_.gFile] []), (3, .cells [.int .i64 d172_.gHead.gKind, .str d172_.gHead.gName, .int .i64 d172_.gHead.gNum, .sl (List.map GTerm.c d172_.gHead.gKids), .int .i64 d172_.gBody.gKind, .str d172_.gBody.gName, .int .i64 d172_.gBody.gNum, .sl (List.map GTerm.c d172_.gBody.gKids), .str d172_.gFile] [])], []⟩ _ (by kernel_rfl) (.cons (claws_eqTerm h141) .nil) ?_
  rcases oif h with ⟨h142, h⟩ | ⟨h142, h⟩
  · refine Wc.condT h142 (by kernel_rfl) ?_
    refine Wc.seq ?_
    refine Wc.region [] [] [4] [] [] ⟨[(4, (.v (.bool false), []))], [], []⟩ _ (by kernel_rfl) .nil ?_
    refine Wc.ret ?_
    obtain rfl := Option.some.inj h
    exact ⟨.inl rfl, by kernel_rfl, by kernel_rfl⟩
  · refine Wc.condF h142 (by kernel_rfl) ?_
    refine Wc.fix (st' := ⟨[(2, (.ptr 2 0, [])), (3, (.ptr 3 0, []))], [(2, .cells [.int .i64 d171_.gHead.gKind, .str d171_.gHead.gName, .int .i64 d171_.gHead.gNum, .sl (List.map GTerm.c d171_.gHead.gKids), .int .i64 d171_.gBody.gKind, .str d171_.gBody.gName, .int .i64 d171_.gBody.gNum, .sl (List.map GTerm.c d171_.gBody.gKids), .str d171_.gFile] []), (3, .cells [.int .i64 d172_.gHead.gKind, .str d172_.gHead.gName, .int .i64 d172_.gHead.gNum, .sl (List.map GTerm.c d172_.gHead.gKids), .int .i64 d172_.gBody.gKind, .str d172_.gBody.gName, .int .i64 d172_.gBody.gNum, .sl (List.map GTerm.c d172_.gBody.gKids), .str d172_.gFile] [])], []⟩) [] [2, 3] [2, 3] [] (by kernel_rfl) ?_
    refine Wc.skip ?_
    refine Wc.seq ?_
    refine Wc.seq ?_
    obtain ⟨n174_, h143, h⟩ := obind h
    refine Wc.region [{}, {}, {}, {}, { r := some (.v (.bool n174_) []) }] [] [2, 3, 16] [2, 3] [] ⟨[(2, (.ptr 2 0, [])), (3, (.ptr 3 0, [])), (16, (.v (.bool (!n174_)), []))], [(2, .cells [.int .i64 d171_.gHead.gKind, .str d171_.gHead.gName, .int .i64 d171_.gHead.gNum, .sl (List.map GTerm.c d171_.gHead.gKids), .int .i64 d171_.gBody.gKind, .str d171_.gBody.gName, .int .i64 d171_.gBody.gNum, .sl (List.map GTerm.c d171_.gBody.gKids), .str d171_.gFile] []), (3, .cells [.int .i64 d172_.gHead.gKind, .str d172_.gHead.gName, .int .i64 d172_.gHead.gNum, .sl (List.map GTerm.c d172_.gHead.gKids), .int .i64 d172_.gBody.gKind, .str d172_.gBody.gName, .int .i64 d172_.gBody.gNum, .sl (List.map GTerm.c d172_.gBody.gKids), .str d172_.gFile] [])], []⟩ _ (by kernel_rfl) (.cons (claws_eqTerm h143) .nil) ?_
    rcases oif h with ⟨h144, h⟩ | ⟨h144, h⟩
    · refine Wc.condT h144 (by kernel_rfl) ?_
      refine Wc.seq ?_
      refine Wc.region [] [] [4] [] [] ⟨[(4, (.v (.bool false), []))], [], []⟩ _ (by kernel_rfl) .nil ?_
      refine Wc.ret ?_
      obtain rfl := Option.some.inj h
      exact ⟨.inl rfl, by kernel_rfl, by kernel_rfl⟩
    · refine Wc.condF h144 (by kernel_rfl) ?_
      refine Wc.fix (st' := ⟨[(2, (.ptr 2 0, [])), (3, (.ptr 3 0, []))], [(2, .cells [.int .i64 d171_.gHead.gKind, .str d171_.gHead.gName, .int .i64 d171_.gHead.gNum, .sl (List.map GTerm.c d171_.gHead.gKids), .int .i64 d171_.gBody.gKind, .str d171_.gBody.gName, .int .i64 d171_.gBody.gNum, .sl (List.map GTerm.c d171_.gBody.gKids), .str d171_.gFile] []), (3, .cells [.int .i64 d172_.gHead.gKind, .str d172_.gHead.gName, .int .i64 d172_.gHead.gNum, .sl (List.map GTerm.c d172_.gHead.gKids), .int .i64 d172_.gBody.gKind, .str d172_.gBody.gName, .int .i64 d172_.gBody.gNum, .sl (List.map GTerm.c d172_.gBody.gKids), .str d172_.gFile] [])], []⟩) [] [2, 3] [2, 3] [] (by kernel_rfl) ?_
      refine Wc.skip ?_
      refine Wc.seq ?_
      refine Wc.seq ?_
      refine Wc.region [] [] [21] [] [] ⟨[(21, (.v (.bool (!(sEq d171_.gFile d172_.gFile))), []))], [], []⟩ _ (by kernel_rfl) .nil ?_
      rcases oif h with ⟨h145, h⟩ | ⟨h145, h⟩
      · refine Wc.condT h145 (by kernel_rfl) ?_
        refine Wc.seq ?_
        refine Wc.region [] [] [4] [] [] ⟨[(4, (.v (.bool false), []))], [], []⟩ _ (by kernel_rfl) .nil ?_
        refine Wc.ret ?_
        obtain rfl := Option.some.inj h
        exact ⟨.inl rfl, by kernel_rfl, by kernel_rfl⟩
      · refine Wc.condF h145 (by kernel_rfl) ?_
        refine Wc.fix (st' := ⟨[], [], []⟩) [] [] [] [] (by kernel_rfl) ?_
        refine Wc.skip ?_
        refine Wc.seq ?_
        refine Wc.region [] [] [4] [] [] ⟨[(4, (.v (.bool true), []))], [], []⟩ _ (by kernel_rfl) .nil ?_
        refine Wc.ret ?_
        obtain rfl := Option.some.inj h
        exact ⟨.inl rfl, by kernel_rfl, by kernel_rfl⟩

def plaws_eqClauseS_L1 (k : Nat) (e175_ : List GClause) (e176_ : List GClause) : Nat → Int → Option (Out Bool Unit)
  | 0, _ => none
  | m + 1, b177_ =>
    if (decide (b177_ < (e175_.length : Int))) = true then
      (at' e175_ b177_).bind fun d178_ =>
      (at' e176_ b177_).bind fun d179_ =>
      (plaws_eqClause k d178_ d179_).bind fun n180_ =>
      if (!n180_) = true then
        some (.ret false)
      else
        plaws_eqClauseS_L1 k e175_ e176_ m (wr.i64 (b177_ + 1))
    else
      some (.done ())
/-- laws.eqClauseS -/
def plaws_eqClauseS (k : Nat) (e175_ : List GClause) (e176_ : List GClause) : Option Bool :=
  if ((e175_.length : Int) != (e176_.length : Int)) = true then
    some false
  else
    (plaws_eqClauseS_L1 k e175_ e176_ k 0).bind fun out1 => match out1 with
    | .ret r => some r
    | .done () =>
      some true
theorem claws_eqClauseS {k : Nat} {e175_ : List GClause} {e176_ : List GClause} {r : Bool} (h : plaws_eqClauseS k e175_ e176_ = some r) : FnO Try.prog 44 [.v (.sl (List.map GClause.c e175_)) [], .v (.sl (List.map GClause.c e176_)) []] (.v (.bool r) []) [] := by
  refine FnO.of Try.func44 (rfl : Try.f44.body = some _) (Nat.le_of_ble_eq_true (by kernel_rfl)) (Nat.le_of_ble_eq_true (by kernel_rfl)) ?_
  intro w0 X0 Fin pv0 pb gt
  unfold plaws_eqClauseS at h
  refine Wc.seq ?_
  refine Wc.region [] [] [0, 1] [] [] ⟨[(0, (.v (.sl (List.map GClause.c e175_)), [])), (1, (.v (.sl (List.map GClause.c e176_)), []))], [], []⟩ _ (by kernel_rfl) .nil ?_
  refine Wc.seq ?_
  refine Wc.seq ?_
  refine Wc.region [{}, { v := some (.int .i64 (e175_.length : Int)) }, {}, { v := some (.int .i64 (e176_.length : Int)) }] [] [0, 1, 10] [] [] ⟨[(0, (.v (.sl (List.map GClause.c e175_)), [])), (1, (.v (.sl (List.map GClause.c e176_)), [])), (10, (.v (.bool ((e175_.length : Int) != (e176_.length : Int))), []))], [], []⟩ _ (by kernel_rfl) (.cons (len_obl GClause.c e175_) (.cons (len_obl GClause.c e176_) .nil)) ?_
  rcases oif h with ⟨h146, h⟩ | ⟨h146, h⟩
  · refine Wc.condT h146 (by kernel_rfl) ?_
    refine Wc.seq ?_
    refine Wc.region [] [] [4] [] [] ⟨[(4, (.v (.bool false), []))], [], []⟩ _ (by kernel_rfl) .nil ?_
    refine Wc.ret ?_
    obtain rfl := Option.some.inj h
    exact ⟨.inl rfl, by kernel_rfl, by kernel_rfl⟩
  · refine Wc.condF h146 (by kernel_rfl) ?_
    refine Wc.fix (st' := ⟨[(0, (.v (.sl (List.map GClause.c e175_)), [])), (1, (.v (.sl (List.map GClause.c e176_)), []))], [], []⟩) [] [0, 1] [] [] (by kernel_rfl) ?_
    refine Wc.skip ?_
    refine Wc.seq ?_
    refine Wc.seq ?_
    refine Wc.region [] [] [0, 1, 5] [] [] ⟨[(0, (.v (.sl (List.map GClause.c e175_)), [])), (1, (.v (.sl (List.map GClause.c e176_)), [])), (5, (.v (.int .i64 0), []))], [], []⟩ _ (by kernel_rfl) .nil ?_
    obtain ⟨out1, h147, h⟩ := obind h
    refine Wc.lastJ (fun st => out1 = .done () ∧ st = ⟨[], [], []⟩) ?_ ?_
    · refine Wc.block ?_
      refine Wc.loop (fun m st => ∃ (b177_ : Int), st = ⟨[(0, (.v (.sl (List.map GClause.c e175_)), [])), (1, (.v (.sl (List.map GClause.c e176_)), [])), (5, (.v (.int .i64 b177_), []))], [], []⟩ ∧ plaws_eqClauseS_L1 k e175_ e176_ m b177_ = some out1) ?_ k ⟨_, rfl, h147⟩
      rintro m st ⟨b177_, rfl, h147⟩
      cases m with
      | zero => exact (onone h147).elim
      | succ m =>
        refine Wc.seq ?_
        refine Wc.seq ?_
        refine Wc.region [{}, {}, { v := some (.int .i64 (e175_.length : Int)) }] [] [0, 1, 5, 14] [] [] ⟨[(0, (.v (.sl (List.map GClause.c e175_)), [])), (1, (.v (.sl (List.map GClause.c e176_)), [])), (5, (.v (.int .i64 b177_), [])), (14, (.v (.bool (decide (b177_ < (e175_.length : Int)))), []))], [], []⟩ _ (by kernel_rfl) (.cons (len_obl GClause.c e175_) .nil) ?_
        rcases oif h147 with ⟨h148, h147⟩ | ⟨h148, h147⟩
        · refine Wc.condT h148 (by kernel_rfl) ?_
          refine Wc.fix (st' := ⟨[(0, (.v (.sl (List.map GClause.c e175_)), [])), (1, (.v (.sl (List.map GClause.c e176_)), [])), (5, (.v (.int .i64 b177_), []))], [], []⟩) [] [0, 1, 5] [] [] (by kernel_rfl) ?_
          refine Wc.skip ?_
          refine Wc.seq ?_
          refine Wc.block ?_
          refine Wc.seq ?_
          obtain ⟨d178_, h149, h147⟩ := obind h147
          obtain ⟨d179_, h150, h147⟩ := obind h147
          obtain ⟨n180_, h151, h147⟩ := obind h147
          refine Wc.draw hmix [{}, {}, { v := some (.vptr [.int .i64 d178_.gHead.gKind, .str d178_.gHead.gName, .int .i64 d178_.gHead.gNum, .sl (List.map GTerm.c d178_.gHead.gKids), .int .i64 d178_.gBody.gKind, .str d178_.gBody.gName, .int .i64 d178_.gBody.gNum, .sl (List.map GTerm.c d178_.gBody.gKids), .str d178_.gFile]) }, {}, {}, {}, { v := some (.vptr [.int .i64 d179_.gHead.gKind, .str d179_.gHead.gName, .int .i64 d179_.gHead.gNum, .sl (List.map GTerm.c d179_.gHead.gKids), .int .i64 d179_.gBody.gKind, .str d179_.gBody.gName, .int .i64 d179_.gBody.gNum, .sl (List.map GTerm.c d179_.gBody.gKids), .str d179_.gFile]) }, {}, { r := some (.v (.bool n180_) []) }] [] [0, 1, 5, 26] [] [] ⟨[(0, (.v (.sl (List.map GClause.c e175_)), [])), (1, (.v (.sl (List.map GClause.c e176_)), [])), (5, (.v (.int .i64 b177_), [])), (26, (.v (.bool (!n180_)), []))], [], []⟩ _ (by kernel_rfl) (fun X => by kernel_rfl) (.cons (at_obl (c := GClause.c) (GClause.c_eq d178_) GClause.c_len h149) (.cons (len_ok 9 [.int .i64 d178_.gHead.gKind, .str d178_.gHead.gName, .int .i64 d178_.gHead.gNum, .sl (List.map GTerm.c d178_.gHead.gKids), .int .i64 d178_.gBody.gKind, .str d178_.gBody.gName, .int .i64 d178_.gBody.gNum, .sl (List.map GTerm.c d178_.gBody.gKids), .str d178_.gFile]) (.cons (at_obl (c := GClause.c) (GClause.c_eq d179_) GClause.c_len h150) (.cons (len_ok 9 [.int .i64 d179_.gHead.gKind, .str d179_.gHead.gName, .int .i64 d179_.gHead.gNum, .sl (List.map GTerm.c d179_.gHead.gKids), .int .i64 d179_.gBody.gKind, .str d179_.gBody.gName, .int .i64 d179_.gBody.gNum, .sl (List.map GTerm.c d179_.gBody.gKids), .str d179_.gFile]) (.cons (claws_eqClause h151) .nil))))) ?_
          rcases oif h147 with ⟨h152, h147⟩ | ⟨h152, h147⟩
          · refine Wc.condT h152 (by kernel_rfl) ?_
            refine Wc.seq ?_
            refine Wc.region [] [] [4] [] [] ⟨[(4, (.v (.bool false), []))], [], []⟩ _ (by kernel_rfl) .nil ?_
            refine Wc.ret ?_
            obtain rfl := Option.some.inj h147
            obtain rfl := Option.some.inj h
            exact ⟨.inl rfl, by kernel_rfl, by kernel_rfl⟩
          · refine Wc.condF h152 (by kernel_rfl) ?_
            refine Wc.fix (st' := ⟨[(0, (.v (.sl (List.map GClause.c e175_)), [])), (1, (.v (.sl (List.map GClause.c e176_)), [])), (5, (.v (.int .i64 b177_), []))], [], []⟩) [] [0, 1, 5] [] [] (by kernel_rfl) ?_
            refine Wc.skip ?_
            refine Wc.region [] [] [0, 1, 5] [] [] ⟨[(0, (.v (.sl (List.map GClause.c e175_)), [])), (1, (.v (.sl (List.map GClause.c e176_)), [])), (5, (.v (.int .i64 (wr.i64 (b177_ + 1))), []))], [], []⟩ _ (by kernel_rfl) .nil ?_
            exact ⟨_, Nat.lt_succ_self _, _, rfl, h147⟩
        · refine Wc.condF h148 (by kernel_rfl) ?_
          refine Wc.fix (st' := ⟨[], [], []⟩) [] [] [] [] (by kernel_rfl) ?_
          refine Wc.exit ?_
          obtain rfl := Option.some.inj h147
          exact ⟨rfl, rfl⟩
    · rintro st ⟨rfl, rfl⟩
      refine Wc.seq ?_
      refine Wc.region [] [] [4] [] [] ⟨[(4, (.v (.bool true), []))], [], []⟩ _ (by kernel_rfl) .nil ?_
      refine Wc.ret ?_
      obtain rfl := Option.some.inj h
      exact ⟨.inl rfl, by kernel_rfl, by kernel_rfl⟩

def plaws_eqStringS_L1 (k : Nat) (f181_ : List ByteArray) (f182_ : List ByteArray) : Nat → Int → Option (Out Bool Unit)
  | 0, _ => none
  | m + 1, b183_ =>
    if (decide (b183_ < (f181_.length : Int))) = true then
      (at' f181_ b183_).bind fun g184_ =>
      (at' f182_ b183_).bind fun g185_ =>
      if (!(sEq g184_ g185_)) = true then
        some (.ret false)
      else
        plaws_eqStringS_L1 k f181_ f182_ m (wr.i64 (b183_ + 1))
    else
      some (.done ())
/-- laws.eqStringS -/
def plaws_eqStringS (k : Nat) (f181_ : List ByteArray) (f182_ : List ByteArray) : Option Bool :=
  if ((f181_.length : Int) != (f182_.length : Int)) = true then
    some false
  else
    (plaws_eqStringS_L1 k f181_ f182_ k 0).bind fun out1 => match out1 with
    | .ret r => some r
    | .done () =>
      some true
theorem claws_eqStringS {k : Nat} {f181_ : List ByteArray} {f182_ : List ByteArray} {r : Bool} (h : plaws_eqStringS k f181_ f182_ = some r) : FnO Try.prog 45 [.v (.sl (List.map cS f181_)) [], .v (.sl (List.map cS f182_)) []] (.v (.bool r) []) [] := by
  refine FnO.of Try.func45 (rfl : Try.f45.body = some _) (Nat.le_of_ble_eq_true (by kernel_rfl)) (Nat.le_of_ble_eq_true (by kernel_rfl)) ?_
  intro w0 X0 Fin pv0 pb gt
  unfold plaws_eqStringS at h
  refine Wc.seq ?_
  refine Wc.region [] [] [0, 1] [] [] ⟨[(0, (.v (.sl (List.map cS f181_)), [])), (1, (.v (.sl (List.map cS f182_)), []))], [], []⟩ _ (by kernel_rfl) .nil ?_
  refine Wc.seq ?_
  refine Wc.seq ?_
  refine Wc.region [{}, { v := some (.int .i64 (f181_.length : Int)) }, {}, { v := some (.int .i64 (f182_.length : Int)) }] [] [0, 1, 10] [] [] ⟨[(0, (.v (.sl (List.map cS f181_)), [])), (1, (.v (.sl (List.map cS f182_)), [])), (10, (.v (.bool ((f181_.length : Int) != (f182_.length : Int))), []))], [], []⟩ _ (by kernel_rfl) (.cons (len_obl cS f181_) (.cons (len_obl cS f182_) .nil)) ?_
  rcases oif h with ⟨h153, h⟩ | ⟨h153, h⟩
  · refine Wc.condT h153 (by kernel_rfl) ?_
    refine Wc.seq ?_
    refine Wc.region [] [] [4] [] [] ⟨[(4, (.v (.bool false), []))], [], []⟩ _ (by kernel_rfl) .nil ?_
    refine Wc.ret ?_
    obtain rfl := Option.some.inj h
    exact ⟨.inl rfl, by kernel_rfl, by kernel_rfl⟩
  · refine Wc.condF h153 (by kernel_rfl) ?_
    refine Wc.fix (st' := ⟨[(0, (.v (.sl (List.map cS f181_)), [])), (1, (.v (.sl (List.map cS f182_)), []))], [], []⟩) [] [0, 1] [] [] (by kernel_rfl) ?_
    refine Wc.skip ?_
    refine Wc.seq ?_
    refine Wc.seq ?_
    refine Wc.region [] [] [0, 1, 5] [] [] ⟨[(0, (.v (.sl (List.map cS f181_)), [])), (1, (.v (.sl (List.map cS f182_)), [])), (5, (.v (.int .i64 0), []))], [], []⟩ _ (by kernel_rfl) .nil ?_
    obtain ⟨out1, h154, h⟩ := obind h
    refine Wc.lastJ (fun st => out1 = .done () ∧ st = ⟨[], [], []⟩) ?_ ?_
    · refine Wc.block ?_
      refine Wc.loop (fun m st => ∃ (b183_ : Int), st = ⟨[(0, (.v (.sl (List.map cS f181_)), [])), (1, (.v (.sl (List.map cS f182_)), [])), (5, (.v (.int .i64 b183_), []))], [], []⟩ ∧ plaws_eqStringS_L1 k f181_ f182_ m b183_ = some out1) ?_ k ⟨_, rfl, h154⟩
      rintro m st ⟨b183_, rfl, h154⟩
      cases m with
      | zero => exact (onone h154).elim
      | succ m =>
        refine Wc.seq ?_
        refine Wc.seq ?_
        refine Wc.region [{}, {}, { v := some (.int .i64 (f181_.length : Int)) }] [] [0, 1, 5, 14] [] [] ⟨[(0, (.v (.sl (List.map cS f181_)), [])), (1, (.v (.sl (List.map cS f182_)), [])), (5, (.v (.int .i64 b183_), [])), (14, (.v (.bool (decide (b183_ < (f181_.length : Int)))), []))], [], []⟩ _ (by kernel_rfl) (.cons (len_obl cS f181_) .nil) ?_
        rcases oif h154 with ⟨h155, h154⟩ | ⟨h155, h154⟩
        · refine Wc.condT h155 (by kernel_rfl) ?_
          refine Wc.fix (st' := ⟨[(0, (.v (.sl (List.map cS f181_)), [])), (1, (.v (.sl (List.map cS f182_)), [])), (5, (.v (.int .i64 b183_), []))], [], []⟩) [] [0, 1, 5] [] [] (by kernel_rfl) ?_
          refine Wc.skip ?_
          refine Wc.seq ?_
          refine Wc.block ?_
          refine Wc.seq ?_
          obtain ⟨g184_, h156, h154⟩ := obind h154
          obtain ⟨g185_, h157, h154⟩ := obind h154
          refine Wc.draw hmix [{}, {}, { v := some (.vptr [.str g184_]) }, {}, {}, {}, { v := some (.vptr [.str g185_]) }] [] [0, 1, 5, 25] [] [] ⟨[(0, (.v (.sl (List.map cS f181_)), [])), (1, (.v (.sl (List.map cS f182_)), [])), (5, (.v (.int .i64 b183_), [])), (25, (.v (.bool (!(sEq g184_ g185_))), []))], [], []⟩ _ (by kernel_rfl) (fun X => by kernel_rfl) (.cons (at_obl (c := cS) rfl cS_len h156) (.cons (len_ok 1 [.str g184_]) (.cons (at_obl (c := cS) rfl cS_len h157) (.cons (len_ok 1 [.str g185_]) .nil)))) ?_
          rcases oif h154 with ⟨h158, h154⟩ | ⟨h158, h154⟩
          · refine Wc.condT h158 (by kernel_rfl) ?_
            refine Wc.seq ?_
            refine Wc.region [] [] [4] [] [] ⟨[(4, (.v (.bool false), []))], [], []⟩ _ (by kernel_rfl) .nil ?_
            refine Wc.ret ?_
            obtain rfl := Option.some.inj h154
            obtain rfl := Option.some.inj h
            exact ⟨.inl rfl, by kernel_rfl, by kernel_rfl⟩
          · refine Wc.condF h158 (by kernel_rfl) ?_
            refine Wc.fix (st' := ⟨[(0, (.v (.sl (List.map cS f181_)), [])), (1, (.v (.sl (List.map cS f182_)), [])), (5, (.v (.int .i64 b183_), []))], [], []⟩) [] [0, 1, 5] [] [] (by kernel_rfl) ?_
            refine Wc.skip ?_
            refine Wc.region [] [] [0, 1, 5] [] [] ⟨[(0, (.v (.sl (List.map cS f181_)), [])), (1, (.v (.sl (List.map cS f182_)), [])), (5, (.v (.int .i64 (wr.i64 (b183_ + 1))), []))], [], []⟩ _ (by kernel_rfl) .nil ?_
            exact ⟨_, Nat.lt_succ_self _, _, rfl, h154⟩
        · refine Wc.condF h155 (by kernel_rfl) ?_
          refine Wc.fix (st' := ⟨[], [], []⟩) [] [] [] [] (by kernel_rfl) ?_
          refine Wc.exit ?_
          obtain rfl := Option.some.inj h154
          exact ⟨rfl, rfl⟩
    · rintro st ⟨rfl, rfl⟩
      refine Wc.seq ?_
      refine Wc.region [] [] [4] [] [] ⟨[(4, (.v (.bool true), []))], [], []⟩ _ (by kernel_rfl) .nil ?_
      refine Wc.ret ?_
      obtain rfl := Option.some.inj h
      exact ⟨.inl rfl, by kernel_rfl, by kernel_rfl⟩

/-- laws.eqDb -/
def plaws_eqDb (k : Nat) (i186_ : GDb) (i187_ : GDb) : Option Bool :=
  (plaws_eqClauseS k i186_.gClauses i187_.gClauses).bind fun n188_ =>
  if (!n188_) = true then
    some false
  else
    (plaws_eqStringS k i186_.gOpen i187_.gOpen).bind fun n189_ =>
    if (!n189_) = true then
      some false
    else
      some true
theorem claws_eqDb {k : Nat} {i186_ : GDb} {i187_ : GDb} {r : Bool} (h : plaws_eqDb k i186_ i187_ = some r) : FnO Try.prog 10 [.v (.agg [.sl (List.map GClause.c i186_.gClauses), .sl (List.map cS i186_.gOpen)]) [], .v (.agg [.sl (List.map GClause.c i187_.gClauses), .sl (List.map cS i187_.gOpen)]) []] (.v (.bool r) []) [] := by
  refine FnO.of Try.func10 (rfl : Try.f10.body = some _) (Nat.le_of_ble_eq_true (by kernel_rfl)) (Nat.le_of_ble_eq_true (by kernel_rfl)) ?_
  intro w0 X0 Fin pv0 pb gt
  unfold plaws_eqDb at h
  refine Wc.seq ?_
  refine Wc.region [] [] [2, 3] [2, 3] [] ⟨[(2, (.ptr 2 0, [])), (3, (.ptr 3 0, []))], [(2, .cells [.sl (List.map GClause.c i186_.gClauses), .sl (List.map cS i186_.gOpen)] []), (3, .cells [.sl (List.map GClause.c i187_.gClauses), .sl (List.map cS i187_.gOpen)] [])], []⟩ _ (by kernel_rfl) .nil ?_
  refine Wc.seq ?_
  refine Wc.seq ?_
  obtain ⟨n188_, h159, h⟩ := obind h
  refine Wc.region [{}, {}, {}, {}, { r := some (.v (.bool n188_) []) }] [] [2, 3, 10] [2, 3] [] ⟨[(2, (.ptr 2 0, [])), (3, (.ptr 3 0, [])), (10, (.v (.bool (!n188_)), []))], [(2, .cells [.sl (List.map GClause.c i186_.gClauses), .sl (List.map cS i186_.gOpen)] []), (3, .cells [.sl (List.map GClause.c i187_.gClauses), .sl (List.map cS i187_.gOpen)] [])], []⟩ _ (by kernel_rfl) (.cons (claws_eqClauseS h159) .nil) ?_
  rcases oif h with ⟨h160, h⟩ | ⟨h160, h⟩
  · refine Wc.condT h160 (by kernel_rfl) ?_
    refine Wc.seq ?_
    refine Wc.region [] [] [4] [] [] ⟨[(4, (.v (.bool false), []))], [], []⟩ _ (by kernel_rfl) .nil ?_
    refine Wc.ret ?_
    obtain rfl := Option.some.inj h
    exact ⟨.inl rfl, by kernel_rfl, by kernel_rfl⟩
  · refine Wc.condF h160 (by kernel_rfl) ?_
    refine Wc.fix (st' := ⟨[(2, (.ptr 2 0, [])), (3, (.ptr 3 0, []))], [(2, .cells [.sl (List.map GClause.c i186_.gClauses), .sl (List.map cS i186_.gOpen)] []), (3, .cells [.sl (List.map GClause.c i187_.gClauses), .sl (List.map cS i187_.gOpen)] [])], []⟩) [] [2, 3] [2, 3] [] (by kernel_rfl) ?_
    refine Wc.skip ?_
    refine Wc.seq ?_
    refine Wc.seq ?_
    obtain ⟨n189_, h161, h⟩ := obind h
    refine Wc.region [{}, {}, {}, {}, { r := some (.v (.bool n189_) []) }] [] [16] [] [] ⟨[(16, (.v (.bool (!n189_)), []))], [], []⟩ _ (by kernel_rfl) (.cons (claws_eqStringS h161) .nil) ?_
    rcases oif h with ⟨h162, h⟩ | ⟨h162, h⟩
    · refine Wc.condT h162 (by kernel_rfl) ?_
      refine Wc.seq ?_
      refine Wc.region [] [] [4] [] [] ⟨[(4, (.v (.bool false), []))], [], []⟩ _ (by kernel_rfl) .nil ?_
      refine Wc.ret ?_
      obtain rfl := Option.some.inj h
      exact ⟨.inl rfl, by kernel_rfl, by kernel_rfl⟩
    · refine Wc.condF h162 (by kernel_rfl) ?_
      refine Wc.fix (st' := ⟨[], [], []⟩) [] [] [] [] (by kernel_rfl) ?_
      refine Wc.skip ?_
      refine Wc.seq ?_
      refine Wc.region [] [] [4] [] [] ⟨[(4, (.v (.bool true), []))], [], []⟩ _ (by kernel_rfl) .nil ?_
      refine Wc.ret ?_
      obtain rfl := Option.some.inj h
      exact ⟨.inl rfl, by kernel_rfl, by kernel_rfl⟩

def plaws_markText_L1 (k : Nat) : Nat → Int → ByteArray → Option (Out ByteArray ByteArray)
  | 0, _, _ => none
  | m + 1, b191_, g192_ =>
    if (decide (b191_ > 0)) = true then
      if (10 : Int) ≠ 0 then
        if sumOk (strOfNums [wr.u8 (wr.i64 (48 + (Int.tmod b191_ 10)))]) g192_ then
          if (10 : Int) ≠ 0 then
            plaws_markText_L1 k m (wr.i64 (Int.tdiv b191_ 10)) ((strOfNums [wr.u8 (wr.i64 (48 + (Int.tmod b191_ 10)))]) ++ g192_)
          else none
        else none
      else none
    else
      some (.done g192_)
/-- laws.markText -/
def plaws_markText (k : Nat) (b190_ : Int) : Option ByteArray :=
  if (decide (b190_ ≤ 0)) = true then
    some (bs [109, 48])
  else
    (plaws_markText_L1 k k b190_ (bs [])).bind fun out1 => match out1 with
    | .ret r => some r
    | .done g193_ =>
      if sumOk (bs [109]) g193_ then
        some ((bs [109]) ++ g193_)
      else none
theorem claws_markText {k : Nat} {b190_ : Int} {r : ByteArray} (h : plaws_markText k b190_ = some r) : FnO Try.prog 88 [.v (.int .i64 b190_) []] (.v (.str r) []) [] := by
  refine FnO.of Try.func88 (rfl : Try.f88.body = some _) (Nat.le_of_ble_eq_true (by kernel_rfl)) (Nat.le_of_ble_eq_true (by kernel_rfl)) ?_
  intro w0 X0 Fin pv0 pb gt
  unfold plaws_markText at h
  refine Wc.seq ?_
  refine Wc.region [] [] [0] [] [] ⟨[(0, (.v (.int .i64 b190_), []))], [], []⟩ _ (by kernel_rfl) .nil ?_
  refine Wc.seq ?_
  refine Wc.seq ?_
  refine Wc.region [] [] [0, 5] [] [] ⟨[(0, (.v (.int .i64 b190_), [])), (5, (.v (.bool (decide (b190_ ≤ 0))), []))], [], []⟩ _ (by kernel_rfl) .nil ?_
  rcases oif h with ⟨h163, h⟩ | ⟨h163, h⟩
  · refine Wc.condT h163 (by kernel_rfl) ?_
    refine Wc.seq ?_
    refine Wc.region [] [] [2] [] [] ⟨[(2, (.v (.str (bs [109, 48])), []))], [], []⟩ _ (by kernel_rfl) .nil ?_
    refine Wc.ret ?_
    obtain rfl := Option.some.inj h
    exact ⟨.inl rfl, by kernel_rfl, by kernel_rfl⟩
  · refine Wc.condF h163 (by kernel_rfl) ?_
    refine Wc.fix (st' := ⟨[(0, (.v (.int .i64 b190_), []))], [], []⟩) [] [0] [] [] (by kernel_rfl) ?_
    refine Wc.skip ?_
    refine Wc.seq ?_
    refine Wc.region [] [] [0, 3] [] [] ⟨[(0, (.v (.int .i64 b190_), [])), (3, (.v (.str (bs [])), []))], [], []⟩ _ (by kernel_rfl) .nil ?_
    obtain ⟨out1, h164, h⟩ := obind h
    refine Wc.seqJ (fun st => ∃ (g193_ : ByteArray), out1 = .done g193_ ∧ st = ⟨[(3, (.v (.str g193_), []))], [], []⟩) ?_ ?_
    · refine Wc.block ?_
      refine Wc.loop (fun m st => ∃ (b191_ : Int) (g192_ : ByteArray), st = ⟨[(0, (.v (.int .i64 b191_), [])), (3, (.v (.str g192_), []))], [], []⟩ ∧ plaws_markText_L1 k m b191_ g192_ = some out1) ?_ k ⟨_, _, rfl, h164⟩
      rintro m st ⟨b191_, g192_, rfl, h164⟩
      cases m with
      | zero => exact (onone h164).elim
      | succ m =>
        refine Wc.seq ?_
        refine Wc.seq ?_
        refine Wc.region [] [] [0, 3, 7] [] [] ⟨[(0, (.v (.int .i64 b191_), [])), (3, (.v (.str g192_), [])), (7, (.v (.bool (decide (b191_ > 0))), []))], [], []⟩ _ (by kernel_rfl) .nil ?_
        rcases oif h164 with ⟨h165, h164⟩ | ⟨h165, h164⟩
        · refine Wc.condT h165 (by kernel_rfl) ?_
          refine Wc.fix (st' := ⟨[(0, (.v (.int .i64 b191_), [])), (3, (.v (.str g192_), []))], [], []⟩) [] [0, 3] [] [] (by kernel_rfl) ?_
          refine Wc.skip ?_
          refine Wc.block ?_
          refine Wc.seq ?_
          obtain ⟨h166, h164⟩ := oguard h164
          obtain ⟨h167, h164⟩ := oguard h164
          refine Wc.region [{}, {}, {}, {}, { c := some (List.map cI.u8 [wr.u8 (wr.i64 (48 + (Int.tmod b191_ 10)))]) }, { v := some (.str (strOfNums [wr.u8 (wr.i64 (48 + (Int.tmod b191_ 10)))])) }] [] [0, 3] [] [] ⟨[(0, (.v (.int .i64 b191_), [])), (3, (.v (.str ((strOfNums [wr.u8 (wr.i64 (48 + (Int.tmod b191_ 10)))]) ++ g192_)), []))], [], []⟩ _ (by kernel_rfl) (.cons h166 (.cons (cl_cons (c := cI.u8) (x := wr.u8 (wr.i64 (48 + (Int.tmod b191_ 10)))) rfl (cl_nil cI.u8)) (.cons (bytes_obl [wr.u8 (wr.i64 (48 + (Int.tmod b191_ 10)))]) (.cons h167 .nil)))) ?_
          obtain ⟨h168, h164⟩ := oguard h164
          refine Wc.region [] [] [0, 3] [] [] ⟨[(0, (.v (.int .i64 (wr.i64 (Int.tdiv b191_ 10))), [])), (3, (.v (.str ((strOfNums [wr.u8 (wr.i64 (48 + (Int.tmod b191_ 10)))]) ++ g192_)), []))], [], []⟩ _ (by kernel_rfl) (.cons h168 .nil) ?_
          exact ⟨_, Nat.lt_succ_self _, _, _, rfl, h164⟩
        · refine Wc.condF h165 (by kernel_rfl) ?_
          refine Wc.fix (st' := ⟨[(3, (.v (.str g192_), []))], [], []⟩) [] [3] [] [] (by kernel_rfl) ?_
          refine Wc.exit ?_
          obtain rfl := Option.some.inj h164
          exact ⟨_, rfl, rfl⟩
    · rintro st ⟨g193_, rfl, rfl⟩
      refine Wc.seq ?_
      obtain ⟨h169, h⟩ := oguard h
      refine Wc.region [] [] [2] [] [] ⟨[(2, (.v (.str ((bs [109]) ++ g193_)), []))], [], []⟩ _ (by kernel_rfl) (.cons h169 .nil) ?_
      refine Wc.ret ?_
      obtain rfl := Option.some.inj h
      exact ⟨.inl rfl, by kernel_rfl, by kernel_rfl⟩

def plaws_markTermS_L1 (k : Nat) (rlaws_markTermS : (List GTerm) → Int → Option ((List GTerm) × Int)) : Nat → Int → Int → (List GTerm) → Option (Out ((List GTerm) × Int) (Int × (List GTerm)))
  | 0, _, _, _ => none
  | m + 1, b196_, b197_, a198_ =>
    if (decide (b197_ < (a198_.length : Int))) = true then
      (at' a198_ b197_).bind fun c201_ =>
      (plaws_markText k (wr.i64 (b196_ + 1))).bind fun g202_ =>
      (at' (a198_.set ((b197_).toNat) (GTerm.mk b196_ c201_.gName c201_.gNum c201_.gKids)) b197_).bind fun c203_ =>
      (at' ((a198_.set ((b197_).toNat) (GTerm.mk b196_ c201_.gName c201_.gNum c201_.gKids)).set ((b197_).toNat) (GTerm.mk c203_.gKind g202_ c203_.gNum c203_.gKids)) b197_).bind fun c204_ =>
      (at' (((a198_.set ((b197_).toNat) (GTerm.mk b196_ c201_.gName c201_.gNum c201_.gKids)).set ((b197_).toNat) (GTerm.mk c203_.gKind g202_ c203_.gNum c203_.gKids)).set ((b197_).toNat) (GTerm.mk c204_.gKind c204_.gName (wr.i64 ((wr.i64 (b196_ + 1)) + 1)) c204_.gKids)) b197_).bind fun c205_ =>
      (rlaws_markTermS c205_.gKids (wr.i64 ((wr.i64 ((wr.i64 (b196_ + 1)) + 1)) + 1))).bind fun o206_ =>
      plaws_markTermS_L1 k rlaws_markTermS m o206_.2 (wr.i64 (b197_ + 1)) ((((a198_.set ((b197_).toNat) (GTerm.mk b196_ c201_.gName c201_.gNum c201_.gKids)).set ((b197_).toNat) (GTerm.mk c203_.gKind g202_ c203_.gNum c203_.gKids)).set ((b197_).toNat) (GTerm.mk c204_.gKind c204_.gName (wr.i64 ((wr.i64 (b196_ + 1)) + 1)) c204_.gKids)).set ((b197_).toNat) (GTerm.mk c205_.gKind c205_.gName c205_.gNum o206_.1))
    else
      some (.done (b196_, a198_))
mutual
/-- laws.markTermS -/
def plaws_markTermS : Nat → (List GTerm) → Int → Option ((List GTerm) × Int)
  | 0, _, _ => none
  | k + 1, a194_, b195_ =>
    (plaws_markTermS_L1 k (plaws_markTermS k) k b195_ 0 a194_).bind fun out1 => match out1 with
    | .ret r => some r
    | .done (b199_, a200_) =>
      some (a200_, b199_)
end
theorem all_plaws_markTermS : ∀ k : Nat, (∀ {a194_ : List GTerm} {b195_ : Int} {r : (List GTerm) × Int}, plaws_markTermS k a194_ b195_ = some r → FnO Try.prog 89 [.io (.slx) [(0, .ex 1000000007 true (List.map GTerm.c a194_))], .v (.int .i64 b195_) []] (.v (.int .i64 r.2) []) [(0, .v .undef [(0, .ex 1000000007 true (List.map GTerm.c r.1))])]) := by
  intro k
  induction k with
  | zero =>
    · intro a194_ b195_ r h
      exact (onone (by rw [plaws_markTermS] at h; exact h)).elim
  | succ k ih =>
    have ih_plaws_markTermS := @ih
    · intro a194_ b195_ r h
      rw [plaws_markTermS] at h
      refine FnO.of Try.func89 (rfl : Try.f89.body = some _) (Nat.le_of_ble_eq_true (by kernel_rfl)) (Nat.le_of_ble_eq_true (by kernel_rfl)) ?_
      intro w0 X0 Fin pv0 pb gt
      refine Wc.seq ?_
      refine Wc.region [] [] [0, 1] [] [0] ⟨[(0, (.v (.slx), [(0, .al (.a 0 0) [])])), (1, (.v (.int .i64 b195_), []))], [], [(0, [(0, .ex 1000000007 true (List.map GTerm.c a194_))])]⟩ _ (by kernel_rfl) .nil ?_
      refine Wc.seq ?_
      refine Wc.seq ?_
      refine Wc.region [] [] [0, 1, 5] [] [0] ⟨[(0, (.v (.slx), [(0, .al (.a 0 0) [])])), (1, (.v (.int .i64 b195_), [])), (5, (.v (.int .i64 0), []))], [], [(0, [(0, .ex 1000000007 true (List.map GTerm.c a194_))])]⟩ _ (by kernel_rfl) .nil ?_
      obtain ⟨out1, h170, h⟩ := obind h
      refine Wc.lastJ (fun st => ∃ (b199_ : Int) (a200_ : List GTerm), out1 = .done (b199_, a200_) ∧ st = ⟨[(1, (.v (.int .i64 b199_), []))], [], [(0, [(0, .ex 1000000007 true (List.map GTerm.c a200_))])]⟩) ?_ ?_
      · refine Wc.block ?_
        refine Wc.loop (fun m st => ∃ (b196_ : Int) (b197_ : Int) (a198_ : List GTerm), st = ⟨[(0, (.v (.slx), [(0, .al (.a 0 0) [])])), (1, (.v (.int .i64 b196_), [])), (5, (.v (.int .i64 b197_), []))], [], [(0, [(0, .ex 1000000007 true (List.map GTerm.c a198_))])]⟩ ∧ plaws_markTermS_L1 k (plaws_markTermS k) m b196_ b197_ a198_ = some out1) ?_ k ⟨_, _, _, rfl, h170⟩
        rintro m st ⟨b196_, b197_, a198_, rfl, h170⟩
        cases m with
        | zero => exact (onone h170).elim
        | succ m =>
          refine Wc.seq ?_
          refine Wc.seq ?_
          refine Wc.region [{}, {}, { v := some (.int .i64 (a198_.length : Int)) }] [] [0, 1, 5, 9] [] [0] ⟨[(0, (.v (.slx), [(0, .al (.a 0 0) [])])), (1, (.v (.int .i64 b196_), [])), (5, (.v (.int .i64 b197_), [])), (9, (.v (.bool (decide (b197_ < (a198_.length : Int)))), []))], [], [(0, [(0, .ex 1000000007 true (List.map GTerm.c a198_))])]⟩ _ (by kernel_rfl) (.cons (len_obl GTerm.c a198_) .nil) ?_
          rcases oif h170 with ⟨h171, h170⟩ | ⟨h171, h170⟩
          · refine Wc.condT h171 (by kernel_rfl) ?_
            refine Wc.fix (st' := ⟨[(0, (.v (.slx), [(0, .al (.a 0 0) [])])), (1, (.v (.int .i64 b196_), [])), (5, (.v (.int .i64 b197_), []))], [], [(0, [(0, .ex 1000000007 true (List.map GTerm.c a198_))])]⟩) [] [0, 1, 5] [] [0] (by kernel_rfl) ?_
            refine Wc.skip ?_
            refine Wc.seq ?_
            refine Wc.block ?_
            refine Wc.seq ?_
            obtain ⟨c201_, h172, h170⟩ := obind h170
            refine Wc.region [{}, {}, {}, {}, {}, { c := some (List.map GTerm.c (a198_.set ((b197_).toNat) (GTerm.mk b196_ c201_.gName c201_.gNum c201_.gKids))) }] [] [0, 1, 5] [] [0] ⟨[(0, (.v (.slx), [(0, .al (.a 0 0) [])])), (1, (.v (.int .i64 b196_), [])), (5, (.v (.int .i64 b197_), []))], [], [(0, [(0, .ex 1000000007 true (List.map GTerm.c (a198_.set ((b197_).toNat) (GTerm.mk b196_ c201_.gName c201_.gNum c201_.gKids))))])]⟩ _ (by kernel_rfl) (.cons (ix_obl (c := GTerm.c) GTerm.c_len h172) (.cons (mod_obl (off := 0) (new := [.int .i64 b196_]) (c := GTerm.c) (GTerm.c_eq c201_) (GTerm.c_eq (GTerm.mk b196_ c201_.gName c201_.gNum c201_.gKids)) (at'_spec h172).2 rfl) (.cons (st_obl (sz := 4) (off := 0) (s := 1) (c := GTerm.c) (GTerm.c_eq c201_) (at'_spec h172).2 rfl (Nat.le_of_ble_eq_true rfl)) .nil))) ?_
            refine Wc.seq ?_
            refine Wc.region [] [] [0, 1, 5] [] [0] ⟨[(0, (.v (.slx), [(0, .al (.a 0 0) [])])), (1, (.v (.int .i64 (wr.i64 (b196_ + 1))), [])), (5, (.v (.int .i64 b197_), []))], [], [(0, [(0, .ex 1000000007 true (List.map GTerm.c (a198_.set ((b197_).toNat) (GTerm.mk b196_ c201_.gName c201_.gNum c201_.gKids))))])]⟩ _ (by kernel_rfl) .nil ?_
            refine Wc.seq ?_
            obtain ⟨g202_, h173, h170⟩ := obind h170
            obtain ⟨c203_, h174, h170⟩ := obind h170
            refine Wc.region [{}, {}, {}, { r := some (.v (.str g202_) []) }, {}, {}, { c := some (List.map GTerm.c ((a198_.set ((b197_).toNat) (GTerm.mk b196_ c201_.gName c201_.gNum c201_.gKids)).set ((b197_).toNat) (GTerm.mk c203_.gKind g202_ c203_.gNum c203_.gKids))) }] [] [0, 1, 5] [] [0] ⟨[(0, (.v (.slx), [(0, .al (.a 0 0) [])])), (1, (.v (.int .i64 (wr.i64 (b196_ + 1))), [])), (5, (.v (.int .i64 b197_), []))], [], [(0, [(0, .ex 1000000007 true (List.map GTerm.c ((a198_.set ((b197_).toNat) (GTerm.mk b196_ c201_.gName c201_.gNum c201_.gKids)).set ((b197_).toNat) (GTerm.mk c203_.gKind g202_ c203_.gNum c203_.gKids))))])]⟩ _ (by kernel_rfl) (.cons (claws_markText h173) (.cons (ix_obl (c := GTerm.c) GTerm.c_len h174) (.cons (mod_obl (off := 1) (new := [.str g202_]) (c := GTerm.c) (GTerm.c_eq c203_) (GTerm.c_eq (GTerm.mk c203_.gKind g202_ c203_.gNum c203_.gKids)) (at'_spec h174).2 rfl) (.cons (st_obl (sz := 4) (off := 1) (s := 1) (c := GTerm.c) (GTerm.c_eq c203_) (at'_spec h174).2 rfl (Nat.le_of_ble_eq_true rfl)) .nil)))) ?_
            refine Wc.seq ?_
            refine Wc.region [] [] [0, 1, 5] [] [0] ⟨[(0, (.v (.slx), [(0, .al (.a 0 0) [])])), (1, (.v (.int .i64 (wr.i64 ((wr.i64 (b196_ + 1)) + 1))), [])), (5, (.v (.int .i64 b197_), []))], [], [(0, [(0, .ex 1000000007 true (List.map GTerm.c ((a198_.set ((b197_).toNat) (GTerm.mk b196_ c201_.gName c201_.gNum c201_.gKids)).set ((b197_).toNat) (GTerm.mk c203_.gKind g202_ c203_.gNum c203_.gKids))))])]⟩ _ (by kernel_rfl) .nil ?_
            refine Wc.seq ?_
            obtain ⟨c204_, h175, h170⟩ := obind h170
            refine Wc.region [{}, {}, {}, {}, {}, { c := some (List.map GTerm.c (((a198_.set ((b197_).toNat) (GTerm.mk b196_ c201_.gName c201_.gNum c201_.gKids)).set ((b197_).toNat) (GTerm.mk c203_.gKind g202_ c203_.gNum c203_.gKids)).set ((b197_).toNat) (GTerm.mk c204_.gKind c204_.gName (wr.i64 ((wr.i64 (b196_ + 1)) + 1)) c204_.gKids))) }] [] [0, 1, 5] [] [0] ⟨[(0, (.v (.slx), [(0, .al (.a 0 0) [])])), (1, (.v (.int .i64 (wr.i64 ((wr.i64 (b196_ + 1)) + 1))), [])), (5, (.v (.int .i64 b197_), []))], [], [(0, [(0, .ex 1000000007 true (List.map GTerm.c (((a198_.set ((b197_).toNat) (GTerm.mk b196_ c201_.gName c201_.gNum c201_.gKids)).set ((b197_).toNat) (GTerm.mk c203_.gKind g202_ c203_.gNum c203_.gKids)).set ((b197_).toNat) (GTerm.mk c204_.gKind c204_.gName (wr.i64 ((wr.i64 (b196_ + 1)) + 1)) c204_.gKids))))])]⟩ _ (by kernel_rfl) (.cons (ix_obl (c := GTerm.c) GTerm.c_len h175) (.cons (mod_obl (off := 2) (new := [.int .i64 (wr.i64 ((wr.i64 (b196_ + 1)) + 1))]) (c := GTerm.c) (GTerm.c_eq c204_) (GTerm.c_eq (GTerm.mk c204_.gKind c204_.gName (wr.i64 ((wr.i64 (b196_ + 1)) + 1)) c204_.gKids)) (at'_spec h175).2 rfl) (.cons (st_obl (sz := 4) (off := 2) (s := 1) (c := GTerm.c) (GTerm.c_eq c204_) (at'_spec h175).2 rfl (Nat.le_of_ble_eq_true rfl)) .nil))) ?_
            refine Wc.seq ?_
            refine Wc.region [] [] [0, 1, 5] [] [0] ⟨[(0, (.v (.slx), [(0, .al (.a 0 0) [])])), (1, (.v (.int .i64 (wr.i64 ((wr.i64 ((wr.i64 (b196_ + 1)) + 1)) + 1))), [])), (5, (.v (.int .i64 b197_), []))], [], [(0, [(0, .ex 1000000007 true (List.map GTerm.c (((a198_.set ((b197_).toNat) (GTerm.mk b196_ c201_.gName c201_.gNum c201_.gKids)).set ((b197_).toNat) (GTerm.mk c203_.gKind g202_ c203_.gNum c203_.gKids)).set ((b197_).toNat) (GTerm.mk c204_.gKind c204_.gName (wr.i64 ((wr.i64 (b196_ + 1)) + 1)) c204_.gKids))))])]⟩ _ (by kernel_rfl) .nil ?_
            obtain ⟨c205_, h176, h170⟩ := obind h170
            obtain ⟨o206_, h177, h170⟩ := obind h170
            refine Wc.region [{}, {}, {}, {}, { v := some (.slx) }, {}, { c := some (List.map GTerm.c ((((a198_.set ((b197_).toNat) (GTerm.mk b196_ c201_.gName c201_.gNum c201_.gKids)).set ((b197_).toNat) (GTerm.mk c203_.gKind g202_ c203_.gNum c203_.gKids)).set ((b197_).toNat) (GTerm.mk c204_.gKind c204_.gName (wr.i64 ((wr.i64 (b196_ + 1)) + 1)) c204_.gKids)).set ((b197_).toNat) (GTerm.mk c205_.gKind c205_.gName c205_.gNum o206_.1))), io := [0], r := some (.v (.int .i64 o206_.2) []), outs := [(0, .v .undef [(0, .ex 1000000007 true (List.map GTerm.c o206_.1))])], ioc := [(0, .ex 1000000007 true (List.map GTerm.c c205_.gKids))] }] [] [0, 1, 5] [] [0] ⟨[(0, (.v (.slx), [(0, .al (.a 0 0) [])])), (1, (.v (.int .i64 o206_.2), [])), (5, (.v (.int .i64 b197_), []))], [], [(0, [(0, .ex 1000000007 true (List.map GTerm.c ((((a198_.set ((b197_).toNat) (GTerm.mk b196_ c201_.gName c201_.gNum c201_.gKids)).set ((b197_).toNat) (GTerm.mk c203_.gKind g202_ c203_.gNum c203_.gKids)).set ((b197_).toNat) (GTerm.mk c204_.gKind c204_.gName (wr.i64 ((wr.i64 (b196_ + 1)) + 1)) c204_.gKids)).set ((b197_).toNat) (GTerm.mk c205_.gKind c205_.gName c205_.gNum o206_.1))))])]⟩ _ (by kernel_rfl) (.cons (ix_obl (c := GTerm.c) GTerm.c_len h176) (.cons (el_oblD (sz := 4) (off := 3) (s := 1) (ag := false) (v := .slx) (c := GTerm.c) (GTerm.c_eq c205_) (at'_spec h176).2 rfl (Nat.le_of_ble_eq_true rfl) rfl) (.cons (own_obl (own := [(0, .al (.a 0 0) [(((b197_).toNat), 4, 3)])]) (p := .a 0 0) (m := (b197_).toNat) (sz := 4) (off := 3) (js := [0]) rfl) (.cons (seg_obl (sz := 4) (off := 3) (n := [.sl (List.map GTerm.c c205_.gKids)]) (c := GTerm.c) (GTerm.c_eq c205_) (at'_spec h176).2 rfl (Nat.le_of_ble_eq_true rfl) rfl) (.cons (mod_obl (off := 3) (new := [.sl (List.map GTerm.c o206_.1)]) (c := GTerm.c) (GTerm.c_eq c205_) (GTerm.c_eq (GTerm.mk c205_.gKind c205_.gName c205_.gNum o206_.1)) (at'_spec h176).2 rfl) (.cons (FnO.any (args := [.io (.slx) [(0, .ex 1000000007 true (List.map GTerm.c c205_.gKids))], .v (.int .i64 (wr.i64 ((wr.i64 ((wr.i64 (b196_ + 1)) + 1)) + 1))) []]) (ih_plaws_markTermS h177)) .nil)))))) ?_
            refine Wc.region [] [] [0, 1, 5] [] [0] ⟨[(0, (.v (.slx), [(0, .al (.a 0 0) [])])), (1, (.v (.int .i64 o206_.2), [])), (5, (.v (.int .i64 (wr.i64 (b197_ + 1))), []))], [], [(0, [(0, .ex 1000000007 true (List.map GTerm.c ((((a198_.set ((b197_).toNat) (GTerm.mk b196_ c201_.gName c201_.gNum c201_.gKids)).set ((b197_).toNat) (GTerm.mk c203_.gKind g202_ c203_.gNum c203_.gKids)).set ((b197_).toNat) (GTerm.mk c204_.gKind c204_.gName (wr.i64 ((wr.i64 (b196_ + 1)) + 1)) c204_.gKids)).set ((b197_).toNat) (GTerm.mk c205_.gKind c205_.gName c205_.gNum o206_.1))))])]⟩ _ (by kernel_rfl) .nil ?_
            exact ⟨_, Nat.lt_succ_self _, _, _, _, rfl, h170⟩
          · refine Wc.condF h171 (by kernel_rfl) ?_
            refine Wc.fix (st' := ⟨[(1, (.v (.int .i64 b196_), []))], [], [(0, [(0, .ex 1000000007 true (List.map GTerm.c a198_))])]⟩) [] [1] [] [0] (by kernel_rfl) ?_
            refine Wc.exit ?_
            obtain rfl := Option.some.inj h170
            exact ⟨_, _, rfl, rfl⟩
      · rintro st ⟨b199_, a200_, rfl, rfl⟩
        refine Wc.seq ?_
        refine Wc.region [] [] [4] [] [0] ⟨[(4, (.v (.int .i64 b199_), []))], [], [(0, [(0, .ex 1000000007 true (List.map GTerm.c a200_))])]⟩ _ (by kernel_rfl) .nil ?_
        refine Wc.ret ?_
        obtain rfl := Option.some.inj h
        exact ⟨.inl rfl, by kernel_rfl, by kernel_rfl⟩
theorem claws_markTermS {k : Nat} {a194_ : List GTerm} {b195_ : Int} {r : (List GTerm) × Int} (h : plaws_markTermS k a194_ b195_ = some r) : FnO Try.prog 89 [.io (.slx) [(0, .ex 1000000007 true (List.map GTerm.c a194_))], .v (.int .i64 b195_) []] (.v (.int .i64 r.2) []) [(0, .v .undef [(0, .ex 1000000007 true (List.map GTerm.c r.1))])] := (all_plaws_markTermS k) h

def plaws_markClauseS_L1 (k : Nat) : Nat → Int → Int → (List GClause) → Option (Out ((List GClause) × Int) (Int × (List GClause)))
  | 0, _, _, _ => none
  | m + 1, b209_, b210_, e211_ =>
    if (decide (b210_ < (e211_.length : Int))) = true then
      (at' e211_ b210_).bind fun d214_ =>
      (plaws_markText k (wr.i64 (b209_ + 1))).bind fun g215_ =>
      (at' (e211_.set ((b210_).toNat) (GClause.mk (GTerm.mk b209_ d214_.gHead.gName d214_.gHead.gNum d214_.gHead.gKids) d214_.gBody d214_.gFile)) b210_).bind fun d216_ =>
      (at' ((e211_.set ((b210_).toNat) (GClause.mk (GTerm.mk b209_ d214_.gHead.gName d214_.gHead.gNum d214_.gHead.gKids) d214_.gBody d214_.gFile)).set ((b210_).toNat) (GClause.mk (GTerm.mk d216_.gHead.gKind g215_ d216_.gHead.gNum d216_.gHead.gKids) d216_.gBody d216_.gFile)) b210_).bind fun d217_ =>
      (at' (((e211_.set ((b210_).toNat) (GClause.mk (GTerm.mk b209_ d214_.gHead.gName d214_.gHead.gNum d214_.gHead.gKids) d214_.gBody d214_.gFile)).set ((b210_).toNat) (GClause.mk (GTerm.mk d216_.gHead.gKind g215_ d216_.gHead.gNum d216_.gHead.gKids) d216_.gBody d216_.gFile)).set ((b210_).toNat) (GClause.mk (GTerm.mk d217_.gHead.gKind d217_.gHead.gName (wr.i64 ((wr.i64 (b209_ + 1)) + 1)) d217_.gHead.gKids) d217_.gBody d217_.gFile)) b210_).bind fun d218_ =>
      (plaws_markTermS k d218_.gHead.gKids (wr.i64 ((wr.i64 ((wr.i64 (b209_ + 1)) + 1)) + 1))).bind fun o219_ =>
      (at' ((((e211_.set ((b210_).toNat) (GClause.mk (GTerm.mk b209_ d214_.gHead.gName d214_.gHead.gNum d214_.gHead.gKids) d214_.gBody d214_.gFile)).set ((b210_).toNat) (GClause.mk (GTerm.mk d216_.gHead.gKind g215_ d216_.gHead.gNum d216_.gHead.gKids) d216_.gBody d216_.gFile)).set ((b210_).toNat) (GClause.mk (GTerm.mk d217_.gHead.gKind d217_.gHead.gName (wr.i64 ((wr.i64 (b209_ + 1)) + 1)) d217_.gHead.gKids) d217_.gBody d217_.gFile)).set ((b210_).toNat) (GClause.mk (GTerm.mk d218_.gHead.gKind d218_.gHead.gName d218_.gHead.gNum o219_.1) d218_.gBody d218_.gFile)) b210_).bind fun d220_ =>
      (plaws_markText k (wr.i64 (o219_.2 + 1))).bind fun g221_ =>
      (at' (((((e211_.set ((b210_).toNat) (GClause.mk (GTerm.mk b209_ d214_.gHead.gName d214_.gHead.gNum d214_.gHead.gKids) d214_.gBody d214_.gFile)).set ((b210_).toNat) (GClause.mk (GTerm.mk d216_.gHead.gKind g215_ d216_.gHead.gNum d216_.gHead.gKids) d216_.gBody d216_.gFile)).set ((b210_).toNat) (GClause.mk (GTerm.mk d217_.gHead.gKind d217_.gHead.gName (wr.i64 ((wr.i64 (b209_ + 1)) + 1)) d217_.gHead.gKids) d217_.gBody d217_.gFile)).set ((b210_).toNat) (GClause.mk (GTerm.mk d218_.gHead.gKind d218_.gHead.gName d218_.gHead.gNum o219_.1) d218_.gBody d218_.gFile)).set ((b210_).toNat) (GClause.mk d220_.gHead (GTerm.mk o219_.2 d220_.gBody.gName d220_.gBody.gNum d220_.gBody.gKids) d220_.gFile)) b210_).bind fun d222_ =>
      (at' ((((((e211_.set ((b210_).toNat) (GClause.mk (GTerm.mk b209_ d214_.gHead.gName d214_.gHead.gNum d214_.gHead.gKids) d214_.gBody d214_.gFile)).set ((b210_).toNat) (GClause.mk (GTerm.mk d216_.gHead.gKind g215_ d216_.gHead.gNum d216_.gHead.gKids) d216_.gBody d216_.gFile)).set ((b210_).toNat) (GClause.mk (GTerm.mk d217_.gHead.gKind d217_.gHead.gName (wr.i64 ((wr.i64 (b209_ + 1)) + 1)) d217_.gHead.gKids) d217_.gBody d217_.gFile)).set ((b210_).toNat) (GClause.mk (GTerm.mk d218_.gHead.gKind d218_.gHead.gName d218_.gHead.gNum o219_.1) d218_.gBody d218_.gFile)).set ((b210_).toNat) (GClause.mk d220_.gHead (GTerm.mk o219_.2 d220_.gBody.gName d220_.gBody.gNum d220_.gBody.gKids) d220_.gFile)).set ((b210_).toNat) (GClause.mk d222_.gHead (GTerm.mk d222_.gBody.gKind g221_ d222_.gBody.gNum d222_.gBody.gKids) d222_.gFile)) b210_).bind fun d223_ =>
      (at' (((((((e211_.set ((b210_).toNat) (GClause.mk (GTerm.mk b209_ d214_.gHead.gName d214_.gHead.gNum d214_.gHead.gKids) d214_.gBody d214_.gFile)).set ((b210_).toNat) (GClause.mk (GTerm.mk d216_.gHead.gKind g215_ d216_.gHead.gNum d216_.gHead.gKids) d216_.gBody d216_.gFile)).set ((b210_).toNat) (GClause.mk (GTerm.mk d217_.gHead.gKind d217_.gHead.gName (wr.i64 ((wr.i64 (b209_ + 1)) + 1)) d217_.gHead.gKids) d217_.gBody d217_.gFile)).set ((b210_).toNat) (GClause.mk (GTerm.mk d218_.gHead.gKind d218_.gHead.gName d218_.gHead.gNum o219_.1) d218_.gBody d218_.gFile)).set ((b210_).toNat) (GClause.mk d220_.gHead (GTerm.mk o219_.2 d220_.gBody.gName d220_.gBody.gNum d220_.gBody.gKids) d220_.gFile)).set ((b210_).toNat) (GClause.mk d222_.gHead (GTerm.mk d222_.gBody.gKind g221_ d222_.gBody.gNum d222_.gBody.gKids) d222_.gFile)).set ((b210_).toNat) (GClause.mk d223_.gHead (GTerm.mk d223_.gBody.gKind d223_.gBody.gName (wr.i64 ((wr.i64 (o219_.2 + 1)) + 1)) d223_.gBody.gKids) d223_.gFile)) b210_).bind fun d224_ =>
      (plaws_markTermS k d224_.gBody.gKids (wr.i64 ((wr.i64 ((wr.i64 (o219_.2 + 1)) + 1)) + 1))).bind fun o225_ =>
      (plaws_markText k o225_.2).bind fun g226_ =>
      (at' ((((((((e211_.set ((b210_).toNat) (GClause.mk (GTerm.mk b209_ d214_.gHead.gName d214_.gHead.gNum d214_.gHead.gKids) d214_.gBody d214_.gFile)).set ((b210_).toNat) (GClause.mk (GTerm.mk d216_.gHead.gKind g215_ d216_.gHead.gNum d216_.gHead.gKids) d216_.gBody d216_.gFile)).set ((b210_).toNat) (GClause.mk (GTerm.mk d217_.gHead.gKind d217_.gHead.gName (wr.i64 ((wr.i64 (b209_ + 1)) + 1)) d217_.gHead.gKids) d217_.gBody d217_.gFile)).set ((b210_).toNat) (GClause.mk (GTerm.mk d218_.gHead.gKind d218_.gHead.gName d218_.gHead.gNum o219_.1) d218_.gBody d218_.gFile)).set ((b210_).toNat) (GClause.mk d220_.gHead (GTerm.mk o219_.2 d220_.gBody.gName d220_.gBody.gNum d220_.gBody.gKids) d220_.gFile)).set ((b210_).toNat) (GClause.mk d222_.gHead (GTerm.mk d222_.gBody.gKind g221_ d222_.gBody.gNum d222_.gBody.gKids) d222_.gFile)).set ((b210_).toNat) (GClause.mk d223_.gHead (GTerm.mk d223_.gBody.gKind d223_.gBody.gName (wr.i64 ((wr.i64 (o219_.2 + 1)) + 1)) d223_.gBody.gKids) d223_.gFile)).set ((b210_).toNat) (GClause.mk d224_.gHead (GTerm.mk d224_.gBody.gKind d224_.gBody.gName d224_.gBody.gNum o225_.1) d224_.gFile)) b210_).bind fun d227_ =>
      plaws_markClauseS_L1 k m (wr.i64 (o225_.2 + 1)) (wr.i64 (b210_ + 1)) (((((((((e211_.set ((b210_).toNat) (GClause.mk (GTerm.mk b209_ d214_.gHead.gName d214_.gHead.gNum d214_.gHead.gKids) d214_.gBody d214_.gFile)).set ((b210_).toNat) (GClause.mk (GTerm.mk d216_.gHead.gKind g215_ d216_.gHead.gNum d216_.gHead.gKids) d216_.gBody d216_.gFile)).set ((b210_).toNat) (GClause.mk (GTerm.mk d217_.gHead.gKind d217_.gHead.gName (wr.i64 ((wr.i64 (b209_ + 1)) + 1)) d217_.gHead.gKids) d217_.gBody d217_.gFile)).set ((b210_).toNat) (GClause.mk (GTerm.mk d218_.gHead.gKind d218_.gHead.gName d218_.gHead.gNum o219_.1) d218_.gBody d218_.gFile)).set ((b210_).toNat) (GClause.mk d220_.gHead (GTerm.mk o219_.2 d220_.gBody.gName d220_.gBody.gNum d220_.gBody.gKids) d220_.gFile)).set ((b210_).toNat) (GClause.mk d222_.gHead (GTerm.mk d222_.gBody.gKind g221_ d222_.gBody.gNum d222_.gBody.gKids) d222_.gFile)).set ((b210_).toNat) (GClause.mk d223_.gHead (GTerm.mk d223_.gBody.gKind d223_.gBody.gName (wr.i64 ((wr.i64 (o219_.2 + 1)) + 1)) d223_.gBody.gKids) d223_.gFile)).set ((b210_).toNat) (GClause.mk d224_.gHead (GTerm.mk d224_.gBody.gKind d224_.gBody.gName d224_.gBody.gNum o225_.1) d224_.gFile)).set ((b210_).toNat) (GClause.mk d227_.gHead d227_.gBody g226_))
    else
      some (.done (b209_, e211_))
/-- laws.markClauseS -/
def plaws_markClauseS (k : Nat) (e207_ : List GClause) (b208_ : Int) : Option ((List GClause) × Int) :=
  (plaws_markClauseS_L1 k k b208_ 0 e207_).bind fun out1 => match out1 with
  | .ret r => some r
  | .done (b212_, e213_) =>
    some (e213_, b212_)
set_option maxHeartbeats 4000000 in
theorem claws_markClauseS {k : Nat} {e207_ : List GClause} {b208_ : Int} {r : (List GClause) × Int} (h : plaws_markClauseS k e207_ b208_ = some r) : FnO Try.prog 46 [.io (.slx) [(0, .ex 1000000007 true (List.map GClause.c e207_))], .v (.int .i64 b208_) []] (.v (.int .i64 r.2) []) [(0, .v .undef [(0, .ex 1000000007 true (List.map GClause.c r.1))])] := by
  refine FnO.of Try.func46 (rfl : Try.f46.body = some _) (Nat.le_of_ble_eq_true (by kernel_rfl)) (Nat.le_of_ble_eq_true (by kernel_rfl)) ?_
  intro w0 X0 Fin pv0 pb gt
  unfold plaws_markClauseS at h
  refine Wc.seq ?_
  refine Wc.region [] [] [0, 1] [] [0] ⟨[(0, (.v (.slx), [(0, .al (.a 0 0) [])])), (1, (.v (.int .i64 b208_), []))], [], [(0, [(0, .ex 1000000007 true (List.map GClause.c e207_))])]⟩ _ (by kernel_rfl) .nil ?_
  refine Wc.seq ?_
  refine Wc.seq ?_
  refine Wc.region [] [] [0, 1, 5] [] [0] ⟨[(0, (.v (.slx), [(0, .al (.a 0 0) [])])), (1, (.v (.int .i64 b208_), [])), (5, (.v (.int .i64 0), []))], [], [(0, [(0, .ex 1000000007 true (List.map GClause.c e207_))])]⟩ _ (by kernel_rfl) .nil ?_
  obtain ⟨out1, h178, h⟩ := obind h
  refine Wc.lastJ (fun st => ∃ (b212_ : Int) (e213_ : List GClause), out1 = .done (b212_, e213_) ∧ st = ⟨[(1, (.v (.int .i64 b212_), []))], [], [(0, [(0, .ex 1000000007 true (List.map GClause.c e213_))])]⟩) ?_ ?_
  · refine Wc.block ?_
    refine Wc.loop (fun m st => ∃ (b209_ : Int) (b210_ : Int) (e211_ : List GClause), st = ⟨[(0, (.v (.slx), [(0, .al (.a 0 0) [])])), (1, (.v (.int .i64 b209_), [])), (5, (.v (.int .i64 b210_), []))], [], [(0, [(0, .ex 1000000007 true (List.map GClause.c e211_))])]⟩ ∧ plaws_markClauseS_L1 k m b209_ b210_ e211_ = some out1) ?_ k ⟨_, _, _, rfl, h178⟩
    rintro m st ⟨b209_, b210_, e211_, rfl, h178⟩
    cases m with
    | zero => exact (onone h178).elim
    | succ m =>
      refine Wc.seq ?_
      refine Wc.seq ?_
      refine Wc.region [{}, {}, { v := some (.int .i64 (e211_.length : Int)) }] [] [0, 1, 5, 9] [] [0] ⟨[(0, (.v (.slx), [(0, .al (.a 0 0) [])])), (1, (.v (.int .i64 b209_), [])), (5, (.v (.int .i64 b210_), [])), (9, (.v (.bool (decide (b210_ < (e211_.length : Int)))), []))], [], [(0, [(0, .ex 1000000007 true (List.map GClause.c e211_))])]⟩ _ (by kernel_rfl) (.cons (len_obl GClause.c e211_) .nil) ?_
      rcases oif h178 with ⟨h179, h178⟩ | ⟨h179, h178⟩
      · refine Wc.condT h179 (by kernel_rfl) ?_
        refine Wc.fix (st' := ⟨[(0, (.v (.slx), [(0, .al (.a 0 0) [])])), (1, (.v (.int .i64 b209_), [])), (5, (.v (.int .i64 b210_), []))], [], [(0, [(0, .ex 1000000007 true (List.map GClause.c e211_))])]⟩) [] [0, 1, 5] [] [0] (by kernel_rfl) ?_
        refine Wc.skip ?_
        refine Wc.seq ?_
        refine Wc.block ?_
        refine Wc.seq ?_
        obtain ⟨d214_, h180, h178⟩ := obind h178
        refine Wc.region [{}, {}, {}, {}, {}, {}, { c := some (List.map GClause.c (e211_.set ((b210_).toNat) (GClause.mk (GTerm.mk b209_ d214_.gHead.gName d214_.gHead.gNum d214_.gHead.gKids) d214_.gBody d214_.gFile))) }] [] [0, 1, 5] [] [0] ⟨[(0, (.v (.slx), [(0, .al (.a 0 0) [])])), (1, (.v (.int .i64 b209_), [])), (5, (.v (.int .i64 b210_), []))], [], [(0, [(0, .ex 1000000007 true (List.map GClause.c (e211_.set ((b210_).toNat) (GClause.mk (GTerm.mk b209_ d214_.gHead.gName d214_.gHead.gNum d214_.gHead.gKids) d214_.gBody d214_.gFile))))])]⟩ _ (by kernel_rfl) (.cons (ix_obl (c := GClause.c) GClause.c_len h180) (.cons (mod_obl (off := 0) (new := [.int .i64 b209_]) (c := GClause.c) (GClause.c_eq d214_) (GClause.c_eq (GClause.mk (GTerm.mk b209_ d214_.gHead.gName d214_.gHead.gNum d214_.gHead.gKids) d214_.gBody d214_.gFile)) (at'_spec h180).2 rfl) (.cons (st_obl (sz := 9) (off := 0) (s := 1) (c := GClause.c) (GClause.c_eq d214_) (at'_spec h180).2 rfl (Nat.le_of_ble_eq_true rfl)) .nil))) ?_
        refine Wc.seq ?_
        refine Wc.region [] [] [0, 1, 5] [] [0] ⟨[(0, (.v (.slx), [(0, .al (.a 0 0) [])])), (1, (.v (.int .i64 (wr.i64 (b209_ + 1))), [])), (5, (.v (.int .i64 b210_), []))], [], [(0, [(0, .ex 1000000007 true (List.map GClause.c (e211_.set ((b210_).toNat) (GClause.mk (GTerm.mk b209_ d214_.gHead.gName d214_.gHead.gNum d214_.gHead.gKids) d214_.gBody d214_.gFile))))])]⟩ _ (by kernel_rfl) .nil ?_
        refine Wc.seq ?_
        obtain ⟨g215_, h181, h178⟩ := obind h178
        obtain ⟨d216_, h182, h178⟩ := obind h178
        refine Wc.region [{}, {}, {}, { r := some (.v (.str g215_) []) }, {}, {}, {}, { c := some (List.map GClause.c ((e211_.set ((b210_).toNat) (GClause.mk (GTerm.mk b209_ d214_.gHead.gName d214_.gHead.gNum d214_.gHead.gKids) d214_.gBody d214_.gFile)).set ((b210_).toNat) (GClause.mk (GTerm.mk d216_.gHead.gKind g215_ d216_.gHead.gNum d216_.gHead.gKids) d216_.gBody d216_.gFile))) }] [] [0, 1, 5] [] [0] ⟨[(0, (.v (.slx), [(0, .al (.a 0 0) [])])), (1, (.v (.int .i64 (wr.i64 (b209_ + 1))), [])), (5, (.v (.int .i64 b210_), []))], [], [(0, [(0, .ex 1000000007 true (List.map GClause.c ((e211_.set ((b210_).toNat) (GClause.mk (GTerm.mk b209_ d214_.gHead.gName d214_.gHead.gNum d214_.gHead.gKids) d214_.gBody d214_.gFile)).set ((b210_).toNat) (GClause.mk (GTerm.mk d216_.gHead.gKind g215_ d216_.gHead.gNum d216_.gHead.gKids) d216_.gBody d216_.gFile))))])]⟩ _ (by kernel_rfl) (.cons (claws_markText h181) (.cons (ix_obl (c := GClause.c) GClause.c_len h182) (.cons (mod_obl (off := 1) (new := [.str g215_]) (c := GClause.c) (GClause.c_eq d216_) (GClause.c_eq (GClause.mk (GTerm.mk d216_.gHead.gKind g215_ d216_.gHead.gNum d216_.gHead.gKids) d216_.gBody d216_.gFile)) (at'_spec h182).2 rfl) (.cons (st_obl (sz := 9) (off := 1) (s := 1) (c := GClause.c) (GClause.c_eq d216_) (at'_spec h182).2 rfl (Nat.le_of_ble_eq_true rfl)) .nil)))) ?_
        refine Wc.seq ?_
        refine Wc.region [] [] [0, 1, 5] [] [0] ⟨[(0, (.v (.slx), [(0, .al (.a 0 0) [])])), (1, (.v (.int .i64 (wr.i64 ((wr.i64 (b209_ + 1)) + 1))), [])), (5, (.v (.int .i64 b210_), []))], [], [(0, [(0, .ex 1000000007 true (List.map GClause.c ((e211_.set ((b210_).toNat) (GClause.mk (GTerm.mk b209_ d214_.gHead.gName d214_.gHead.gNum d214_.gHead.gKids) d214_.gBody d214_.gFile)).set ((b210_).toNat) (GClause.mk (GTerm.mk d216_.gHead.gKind g215_ d216_.gHead.gNum d216_.gHead.gKids) d216_.gBody d216_.gFile))))])]⟩ _ (by kernel_rfl) .nil ?_
        refine Wc.seq ?_
        obtain ⟨d217_, h183, h178⟩ := obind h178
        refine Wc.region [{}, {}, {}, {}, {}, {}, { c := some (List.map GClause.c (((e211_.set ((b210_).toNat) (GClause.mk (GTerm.mk b209_ d214_.gHead.gName d214_.gHead.gNum d214_.gHead.gKids) d214_.gBody d214_.gFile)).set ((b210_).toNat) (GClause.mk (GTerm.mk d216_.gHead.gKind g215_ d216_.gHead.gNum d216_.gHead.gKids) d216_.gBody d216_.gFile)).set ((b210_).toNat) (GClause.mk (GTerm.mk d217_.gHead.gKind d217_.gHead.gName (wr.i64 ((wr.i64 (b209_ + 1)) + 1)) d217_.gHead.gKids) d217_.gBody d217_.gFile))) }] [] [0, 1, 5] [] [0] ⟨[(0, (.v (.slx), [(0, .al (.a 0 0) [])])), (1, (.v (.int .i64 (wr.i64 ((wr.i64 (b209_ + 1)) + 1))), [])), (5, (.v (.int .i64 b210_), []))], [], [(0, [(0, .ex 1000000007 true (List.map GClause.c (((e211_.set ((b210_).toNat) (GClause.mk (GTerm.mk b209_ d214_.gHead.gName d214_.gHead.gNum d214_.gHead.gKids) d214_.gBody d214_.gFile)).set ((b210_).toNat) (GClause.mk (GTerm.mk d216_.gHead.gKind g215_ d216_.gHead.gNum d216_.gHead.gKids) d216_.gBody d216_.gFile)).set ((b210_).toNat) (GClause.mk (GTerm.mk d217_.gHead.gKind d217_.gHead.gName (wr.i64 ((wr.i64 (b209_ + 1)) + 1)) d217_.gHead.gKids) d217_.gBody d217_.gFile))))])]⟩ _ (by kernel_rfl) (.cons (ix_obl (c := GClause.c) GClause.c_len h183) (.cons (mod_obl (off := 2) (new := [.int .i64 (wr.i64 ((wr.i64 (b209_ + 1)) + 1))]) (c := GClause.c) (GClause.c_eq d217_) (GClause.c_eq (GClause.mk (GTerm.mk d217_.gHead.gKind d217_.gHead.gName (wr.i64 ((wr.i64 (b209_ + 1)) + 1)) d217_.gHead.gKids) d217_.gBody d217_.gFile)) (at'_spec h183).2 rfl) (.cons (st_obl (sz := 9) (off := 2) (s := 1) (c := GClause.c) (GClause.c_eq d217_) (at'_spec h183).2 rfl (Nat.le_of_ble_eq_true rfl)) .nil))) ?_
        refine Wc.seq ?_
        refine Wc.region [] [] [0, 1, 5] [] [0] ⟨[(0, (.v (.slx), [(0, .al (.a 0 0) [])])), (1, (.v (.int .i64 (wr.i64 ((wr.i64 ((wr.i64 (b209_ + 1)) + 1)) + 1))), [])), (5, (.v (.int .i64 b210_), []))], [], [(0, [(0, .ex 1000000007 true (List.map GClause.c (((e211_.set ((b210_).toNat) (GClause.mk (GTerm.mk b209_ d214_.gHead.gName d214_.gHead.gNum d214_.gHead.gKids) d214_.gBody d214_.gFile)).set ((b210_).toNat) (GClause.mk (GTerm.mk d216_.gHead.gKind g215_ d216_.gHead.gNum d216_.gHead.gKids) d216_.gBody d216_.gFile)).set ((b210_).toNat) (GClause.mk (GTerm.mk d217_.gHead.gKind d217_.gHead.gName (wr.i64 ((wr.i64 (b209_ + 1)) + 1)) d217_.gHead.gKids) d217_.gBody d217_.gFile))))])]⟩ _ (by kernel_rfl) .nil ?_
        refine Wc.seq ?_
        obtain ⟨d218_, h184, h178⟩ := obind h178
        obtain ⟨o219_, h185, h178⟩ := obind h178
        refine Wc.region [{}, {}, {}, {}, {}, { v := some (.slx) }, {}, { c := some (List.map GClause.c ((((e211_.set ((b210_).toNat) (GClause.mk (GTerm.mk b209_ d214_.gHead.gName d214_.gHead.gNum d214_.gHead.gKids) d214_.gBody d214_.gFile)).set ((b210_).toNat) (GClause.mk (GTerm.mk d216_.gHead.gKind g215_ d216_.gHead.gNum d216_.gHead.gKids) d216_.gBody d216_.gFile)).set ((b210_).toNat) (GClause.mk (GTerm.mk d217_.gHead.gKind d217_.gHead.gName (wr.i64 ((wr.i64 (b209_ + 1)) + 1)) d217_.gHead.gKids) d217_.gBody d217_.gFile)).set ((b210_).toNat) (GClause.mk (GTerm.mk d218_.gHead.gKind d218_.gHead.gName d218_.gHead.gNum o219_.1) d218_.gBody d218_.gFile))), io := [0], r := some (.v (.int .i64 o219_.2) []), outs := [(0, .v .undef [(0, .ex 1000000007 true (List.map GTerm.c o219_.1))])], ioc := [(0, .ex 1000000007 true (List.map GTerm.c d218_.gHead.gKids))] }] [] [0, 1, 5] [] [0] ⟨[(0, (.v (.slx), [(0, .al (.a 0 0) [])])), (1, (.v (.int .i64 o219_.2), [])), (5, (.v (.int .i64 b210_), []))], [], [(0, [(0, .ex 1000000007 true (List.map GClause.c ((((e211_.set ((b210_).toNat) (GClause.mk (GTerm.mk b209_ d214_.gHead.gName d214_.gHead.gNum d214_.gHead.gKids) d214_.gBody d214_.gFile)).set ((b210_).toNat) (GClause.mk (GTerm.mk d216_.gHead.gKind g215_ d216_.gHead.gNum d216_.gHead.gKids) d216_.gBody d216_.gFile)).set ((b210_).toNat) (GClause.mk (GTerm.mk d217_.gHead.gKind d217_.gHead.gName (wr.i64 ((wr.i64 (b209_ + 1)) + 1)) d217_.gHead.gKids) d217_.gBody d217_.gFile)).set ((b210_).toNat) (GClause.mk (GTerm.mk d218_.gHead.gKind d218_.gHead.gName d218_.gHead.gNum o219_.1) d218_.gBody d218_.gFile))))])]⟩ _ (by kernel_rfl) (.cons (ix_obl (c := GClause.c) GClause.c_len h184) (.cons (el_oblD (sz := 9) (off := 3) (s := 1) (ag := false) (v := .slx) (c := GClause.c) (GClause.c_eq d218_) (at'_spec h184).2 rfl (Nat.le_of_ble_eq_true rfl) rfl) (.cons (own_obl (own := [(0, .al (.a 0 0) [(((b210_).toNat), 9, 3)])]) (p := .a 0 0) (m := (b210_).toNat) (sz := 9) (off := 3) (js := [0]) rfl) (.cons (seg_obl (sz := 9) (off := 3) (n := [.sl (List.map GTerm.c d218_.gHead.gKids)]) (c := GClause.c) (GClause.c_eq d218_) (at'_spec h184).2 rfl (Nat.le_of_ble_eq_true rfl) rfl) (.cons (mod_obl (off := 3) (new := [.sl (List.map GTerm.c o219_.1)]) (c := GClause.c) (GClause.c_eq d218_) (GClause.c_eq (GClause.mk (GTerm.mk d218_.gHead.gKind d218_.gHead.gName d218_.gHead.gNum o219_.1) d218_.gBody d218_.gFile)) (at'_spec h184).2 rfl) (.cons (FnO.any (args := [.io (.slx) [(0, .ex 1000000007 true (List.map GTerm.c d218_.gHead.gKids))], .v (.int .i64 (wr.i64 ((wr.i64 ((wr.i64 (b209_ + 1)) + 1)) + 1))) []]) (claws_markTermS h185)) .nil)))))) ?_
        refine Wc.seq ?_
        obtain ⟨d220_, h186, h178⟩ := obind h178
        refine Wc.region [{}, {}, {}, {}, {}, {}, { c := some (List.map GClause.c (((((e211_.set ((b210_).toNat) (GClause.mk (GTerm.mk b209_ d214_.gHead.gName d214_.gHead.gNum d214_.gHead.gKids) d214_.gBody d214_.gFile)).set ((b210_).toNat) (GClause.mk (GTerm.mk d216_.gHead.gKind g215_ d216_.gHead.gNum d216_.gHead.gKids) d216_.gBody d216_.gFile)).set ((b210_).toNat) (GClause.mk (GTerm.mk d217_.gHead.gKind d217_.gHead.gName (wr.i64 ((wr.i64 (b209_ + 1)) + 1)) d217_.gHead.gKids) d217_.gBody d217_.gFile)).set ((b210_).toNat) (GClause.mk (GTerm.mk d218_.gHead.gKind d218_.gHead.gName d218_.gHead.gNum o219_.1) d218_.gBody d218_.gFile)).set ((b210_).toNat) (GClause.mk d220_.gHead (GTerm.mk o219_.2 d220_.gBody.gName d220_.gBody.gNum d220_.gBody.gKids) d220_.gFile))) }] [] [0, 1, 5] [] [0] ⟨[(0, (.v (.slx), [(0, .al (.a 0 0) [])])), (1, (.v (.int .i64 o219_.2), [])), (5, (.v (.int .i64 b210_), []))], [], [(0, [(0, .ex 1000000007 true (List.map GClause.c (((((e211_.set ((b210_).toNat) (GClause.mk (GTerm.mk b209_ d214_.gHead.gName d214_.gHead.gNum d214_.gHead.gKids) d214_.gBody d214_.gFile)).set ((b210_).toNat) (GClause.mk (GTerm.mk d216_.gHead.gKind g215_ d216_.gHead.gNum d216_.gHead.gKids) d216_.gBody d216_.gFile)).set ((b210_).toNat) (GClause.mk (GTerm.mk d217_.gHead.gKind d217_.gHead.gName (wr.i64 ((wr.i64 (b209_ + 1)) + 1)) d217_.gHead.gKids) d217_.gBody d217_.gFile)).set ((b210_).toNat) (GClause.mk (GTerm.mk d218_.gHead.gKind d218_.gHead.gName d218_.gHead.gNum o219_.1) d218_.gBody d218_.gFile)).set ((b210_).toNat) (GClause.mk d220_.gHead (GTerm.mk o219_.2 d220_.gBody.gName d220_.gBody.gNum d220_.gBody.gKids) d220_.gFile))))])]⟩ _ (by kernel_rfl) (.cons (ix_obl (c := GClause.c) GClause.c_len h186) (.cons (mod_obl (off := 4) (new := [.int .i64 o219_.2]) (c := GClause.c) (GClause.c_eq d220_) (GClause.c_eq (GClause.mk d220_.gHead (GTerm.mk o219_.2 d220_.gBody.gName d220_.gBody.gNum d220_.gBody.gKids) d220_.gFile)) (at'_spec h186).2 rfl) (.cons (st_obl (sz := 9) (off := 4) (s := 1) (c := GClause.c) (GClause.c_eq d220_) (at'_spec h186).2 rfl (Nat.le_of_ble_eq_true rfl)) .nil))) ?_
        refine Wc.seq ?_
        refine Wc.region [] [] [0, 1, 5] [] [0] ⟨[(0, (.v (.slx), [(0, .al (.a 0 0) [])])), (1, (.v (.int .i64 (wr.i64 (o219_.2 + 1))), [])), (5, (.v (.int .i64 b210_), []))], [], [(0, [(0, .ex 1000000007 true (List.map GClause.c (((((e211_.set ((b210_).toNat) (GClause.mk (GTerm.mk b209_ d214_.gHead.gName d214_.gHead.gNum d214_.gHead.gKids) d214_.gBody d214_.gFile)).set ((b210_).toNat) (GClause.mk (GTerm.mk d216_.gHead.gKind g215_ d216_.gHead.gNum d216_.gHead.gKids) d216_.gBody d216_.gFile)).set ((b210_).toNat) (GClause.mk (GTerm.mk d217_.gHead.gKind d217_.gHead.gName (wr.i64 ((wr.i64 (b209_ + 1)) + 1)) d217_.gHead.gKids) d217_.gBody d217_.gFile)).set ((b210_).toNat) (GClause.mk (GTerm.mk d218_.gHead.gKind d218_.gHead.gName d218_.gHead.gNum o219_.1) d218_.gBody d218_.gFile)).set ((b210_).toNat) (GClause.mk d220_.gHead (GTerm.mk o219_.2 d220_.gBody.gName d220_.gBody.gNum d220_.gBody.gKids) d220_.gFile))))])]⟩ _ (by kernel_rfl) .nil ?_
        refine Wc.seq ?_
        obtain ⟨g221_, h187, h178⟩ := obind h178
        obtain ⟨d222_, h188, h178⟩ := obind h178
        refine Wc.region [{}, {}, {}, { r := some (.v (.str g221_) []) }, {}, {}, {}, { c := some (List.map GClause.c ((((((e211_.set ((b210_).toNat) (GClause.mk (GTerm.mk b209_ d214_.gHead.gName d214_.gHead.gNum d214_.gHead.gKids) d214_.gBody d214_.gFile)).set ((b210_).toNat) (GClause.mk (GTerm.mk d216_.gHead.gKind g215_ d216_.gHead.gNum d216_.gHead.gKids) d216_.gBody d216_.gFile)).set ((b210_).toNat) (GClause.mk (GTerm.mk d217_.gHead.gKind d217_.gHead.gName (wr.i64 ((wr.i64 (b209_ + 1)) + 1)) d217_.gHead.gKids) d217_.gBody d217_.gFile)).set ((b210_).toNat) (GClause.mk (GTerm.mk d218_.gHead.gKind d218_.gHead.gName d218_.gHead.gNum o219_.1) d218_.gBody d218_.gFile)).set ((b210_).toNat) (GClause.mk d220_.gHead (GTerm.mk o219_.2 d220_.gBody.gName d220_.gBody.gNum d220_.gBody.gKids) d220_.gFile)).set ((b210_).toNat) (GClause.mk d222_.gHead (GTerm.mk d222_.gBody.gKind g221_ d222_.gBody.gNum d222_.gBody.gKids) d222_.gFile))) }] [] [0, 1, 5] [] [0] ⟨[(0, (.v (.slx), [(0, .al (.a 0 0) [])])), (1, (.v (.int .i64 (wr.i64 (o219_.2 + 1))), [])), (5, (.v (.int .i64 b210_), []))], [], [(0, [(0, .ex 1000000007 true (List.map GClause.c ((((((e211_.set ((b210_).toNat) (GClause.mk (GTerm.mk b209_ d214_.gHead.gName d214_.gHead.gNum d214_.gHead.gKids) d214_.gBody d214_.gFile)).set ((b210_).toNat) (GClause.mk (GTerm.mk d216_.gHead.gKind g215_ d216_.gHead.gNum d216_.gHead.gKids) d216_.gBody d216_.gFile)).set ((b210_).toNat) (GClause.mk (GTerm.mk d217_.gHead.gKind d217_.gHead.gName (wr.i64 ((wr.i64 (b209_ + 1)) + 1)) d217_.gHead.gKids) d217_.gBody d217_.gFile)).set ((b210_).toNat) (GClause.mk (GTerm.mk d218_.gHead.gKind d218_.gHead.gName d218_.gHead.gNum o219_.1) d218_.gBody d218_.gFile)).set ((b210_).toNat) (GClause.mk d220_.gHead (GTerm.mk o219_.2 d220_.gBody.gName d220_.gBody.gNum d220_.gBody.gKids) d220_.gFile)).set ((b210_).toNat) (GClause.mk d222_.gHead (GTerm.mk d222_.gBody.gKind g221_ d222_.gBody.gNum d222_.gBody.gKids) d222_.gFile))))])]⟩ _ (by kernel_rfl) (.cons (claws_markText h187) (.cons (ix_obl (c := GClause.c) GClause.c_len h188) (.cons (mod_obl (off := 5) (new := [.str g221_]) (c := GClause.c) (GClause.c_eq d222_) (GClause.c_eq (GClause.mk d222_.gHead (GTerm.mk d222_.gBody.gKind g221_ d222_.gBody.gNum d222_.gBody.gKids) d222_.gFile)) (at'_spec h188).2 rfl) (.cons (st_obl (sz := 9) (off := 5) (s := 1) (c := GClause.c) (GClause.c_eq d222_) (at'_spec h188).2 rfl (Nat.le_of_ble_eq_true rfl)) .nil)))) ?_
        refine Wc.seq ?_
        refine Wc.region [] [] [0, 1, 5] [] [0] ⟨[(0, (.v (.slx), [(0, .al (.a 0 0) [])])), (1, (.v (.int .i64 (wr.i64 ((wr.i64 (o219_.2 + 1)) + 1))), [])), (5, (.v (.int .i64 b210_), []))], [], [(0, [(0, .ex 1000000007 true (List.map GClause.c ((((((e211_.set ((b210_).toNat) (GClause.mk (GTerm.mk b209_ d214_.gHead.gName d214_.gHead.gNum d214_.gHead.gKids) d214_.gBody d214_.gFile)).set ((b210_).toNat) (GClause.mk (GTerm.mk d216_.gHead.gKind g215_ d216_.gHead.gNum d216_.gHead.gKids) d216_.gBody d216_.gFile)).set ((b210_).toNat) (GClause.mk (GTerm.mk d217_.gHead.gKind d217_.gHead.gName (wr.i64 ((wr.i64 (b209_ + 1)) + 1)) d217_.gHead.gKids) d217_.gBody d217_.gFile)).set ((b210_).toNat) (GClause.mk (GTerm.mk d218_.gHead.gKind d218_.gHead.gName d218_.gHead.gNum o219_.1) d218_.gBody d218_.gFile)).set ((b210_).toNat) (GClause.mk d220_.gHead (GTerm.mk o219_.2 d220_.gBody.gName d220_.gBody.gNum d220_.gBody.gKids) d220_.gFile)).set ((b210_).toNat) (GClause.mk d222_.gHead (GTerm.mk d222_.gBody.gKind g221_ d222_.gBody.gNum d222_.gBody.gKids) d222_.gFile))))])]⟩ _ (by kernel_rfl) .nil ?_
        refine Wc.seq ?_
        obtain ⟨d223_, h189, h178⟩ := obind h178
        refine Wc.region [{}, {}, {}, {}, {}, {}, { c := some (List.map GClause.c (((((((e211_.set ((b210_).toNat) (GClause.mk (GTerm.mk b209_ d214_.gHead.gName d214_.gHead.gNum d214_.gHead.gKids) d214_.gBody d214_.gFile)).set ((b210_).toNat) (GClause.mk (GTerm.mk d216_.gHead.gKind g215_ d216_.gHead.gNum d216_.gHead.gKids) d216_.gBody d216_.gFile)).set ((b210_).toNat) (GClause.mk (GTerm.mk d217_.gHead.gKind d217_.gHead.gName (wr.i64 ((wr.i64 (b209_ + 1)) + 1)) d217_.gHead.gKids) d217_.gBody d217_.gFile)).set ((b210_).toNat) (GClause.mk (GTerm.mk d218_.gHead.gKind d218_.gHead.gName d218_.gHead.gNum o219_.1) d218_.gBody d218_.gFile)).set ((b210_).toNat) (GClause.mk d220_.gHead (GTerm.mk o219_.2 d220_.gBody.gName d220_.gBody.gNum d220_.gBody.gKids) d220_.gFile)).set ((b210_).toNat) (GClause.mk d222_.gHead (GTerm.mk d222_.gBody.gKind g221_ d222_.gBody.gNum d222_.gBody.gKids) d222_.gFile)).set ((b210_).toNat) (GClause.mk d223_.gHead (GTerm.mk d223_.gBody.gKind d223_.gBody.gName (wr.i64 ((wr.i64 (o219_.2 + 1)) + 1)) d223_.gBody.gKids) d223_.gFile))) }] [] [0, 1, 5] [] [0] ⟨[(0, (.v (.slx), [(0, .al (.a 0 0) [])])), (1, (.v (.int .i64 (wr.i64 ((wr.i64 (o219_.2 + 1)) + 1))), [])), (5, (.v (.int .i64 b210_), []))], [], [(0, [(0, .ex 1000000007 true (List.map GClause.c (((((((e211_.set ((b210_).toNat) (GClause.mk (GTerm.mk b209_ d214_.gHead.gName d214_.gHead.gNum d214_.gHead.gKids) d214_.gBody d214_.gFile)).set ((b210_).toNat) (GClause.mk (GTerm.mk d216_.gHead.gKind g215_ d216_.gHead.gNum d216_.gHead.gKids) d216_.gBody d216_.gFile)).set ((b210_).toNat) (GClause.mk (GTerm.mk d217_.gHead.gKind d217_.gHead.gName (wr.i64 ((wr.i64 (b209_ + 1)) + 1)) d217_.gHead.gKids) d217_.gBody d217_.gFile)).set ((b210_).toNat) (GClause.mk (GTerm.mk d218_.gHead.gKind d218_.gHead.gName d218_.gHead.gNum o219_.1) d218_.gBody d218_.gFile)).set ((b210_).toNat) (GClause.mk d220_.gHead (GTerm.mk o219_.2 d220_.gBody.gName d220_.gBody.gNum d220_.gBody.gKids) d220_.gFile)).set ((b210_).toNat) (GClause.mk d222_.gHead (GTerm.mk d222_.gBody.gKind g221_ d222_.gBody.gNum d222_.gBody.gKids) d222_.gFile)).set ((b210_).toNat) (GClause.mk d223_.gHead (GTerm.mk d223_.gBody.gKind d223_.gBody.gName (wr.i64 ((wr.i64 (o219_.2 + 1)) + 1)) d223_.gBody.gKids) d223_.gFile))))])]⟩ _ (by kernel_rfl) (.cons (ix_obl (c := GClause.c) GClause.c_len h189) (.cons (mod_obl (off := 6) (new := [.int .i64 (wr.i64 ((wr.i64 (o219_.2 + 1)) + 1))]) (c := GClause.c) (GClause.c_eq d223_) (GClause.c_eq (GClause.mk d223_.gHead (GTerm.mk d223_.gBody.gKind d223_.gBody.gName (wr.i64 ((wr.i64 (o219_.2 + 1)) + 1)) d223_.gBody.gKids) d223_.gFile)) (at'_spec h189).2 rfl) (.cons (st_obl (sz := 9) (off := 6) (s := 1) (c := GClause.c) (GClause.c_eq d223_) (at'_spec h189).2 rfl (Nat.le_of_ble_eq_true rfl)) .nil))) ?_
        refine Wc.seq ?_
        refine Wc.region [] [] [0, 1, 5] [] [0] ⟨[(0, (.v (.slx), [(0, .al (.a 0 0) [])])), (1, (.v (.int .i64 (wr.i64 ((wr.i64 ((wr.i64 (o219_.2 + 1)) + 1)) + 1))), [])), (5, (.v (.int .i64 b210_), []))], [], [(0, [(0, .ex 1000000007 true (List.map GClause.c (((((((e211_.set ((b210_).toNat) (GClause.mk (GTerm.mk b209_ d214_.gHead.gName d214_.gHead.gNum d214_.gHead.gKids) d214_.gBody d214_.gFile)).set ((b210_).toNat) (GClause.mk (GTerm.mk d216_.gHead.gKind g215_ d216_.gHead.gNum d216_.gHead.gKids) d216_.gBody d216_.gFile)).set ((b210_).toNat) (GClause.mk (GTerm.mk d217_.gHead.gKind d217_.gHead.gName (wr.i64 ((wr.i64 (b209_ + 1)) + 1)) d217_.gHead.gKids) d217_.gBody d217_.gFile)).set ((b210_).toNat) (GClause.mk (GTerm.mk d218_.gHead.gKind d218_.gHead.gName d218_.gHead.gNum o219_.1) d218_.gBody d218_.gFile)).set ((b210_).toNat) (GClause.mk d220_.gHead (GTerm.mk o219_.2 d220_.gBody.gName d220_.gBody.gNum d220_.gBody.gKids) d220_.gFile)).set ((b210_).toNat) (GClause.mk d222_.gHead (GTerm.mk d222_.gBody.gKind g221_ d222_.gBody.gNum d222_.gBody.gKids) d222_.gFile)).set ((b210_).toNat) (GClause.mk d223_.gHead (GTerm.mk d223_.gBody.gKind d223_.gBody.gName (wr.i64 ((wr.i64 (o219_.2 + 1)) + 1)) d223_.gBody.gKids) d223_.gFile))))])]⟩ _ (by kernel_rfl) .nil ?_
        refine Wc.seq ?_
        obtain ⟨d224_, h190, h178⟩ := obind h178
        obtain ⟨o225_, h191, h178⟩ := obind h178
        refine Wc.region [{}, {}, {}, {}, {}, { v := some (.slx) }, {}, { c := some (List.map GClause.c ((((((((e211_.set ((b210_).toNat) (GClause.mk (GTerm.mk b209_ d214_.gHead.gName d214_.gHead.gNum d214_.gHead.gKids) d214_.gBody d214_.gFile)).set ((b210_).toNat) (GClause.mk (GTerm.mk d216_.gHead.gKind g215_ d216_.gHead.gNum d216_.gHead.gKids) d216_.gBody d216_.gFile)).set ((b210_).toNat) (GClause.mk (GTerm.mk d217_.gHead.gKind d217_.gHead.gName (wr.i64 ((wr.i64 (b209_ + 1)) + 1)) d217_.gHead.gKids) d217_.gBody d217_.gFile)).set ((b210_).toNat) (GClause.mk (GTerm.mk d218_.gHead.gKind d218_.gHead.gName d218_.gHead.gNum o219_.1) d218_.gBody d218_.gFile)).set ((b210_).toNat) (GClause.mk d220_.gHead (GTerm.mk o219_.2 d220_.gBody.gName d220_.gBody.gNum d220_.gBody.gKids) d220_.gFile)).set ((b210_).toNat) (GClause.mk d222_.gHead (GTerm.mk d222_.gBody.gKind g221_ d222_.gBody.gNum d222_.gBody.gKids) d222_.gFile)).set ((b210_).toNat) (GClause.mk d223_.gHead (GTerm.mk d223_.gBody.gKind d223_.gBody.gName (wr.i64 ((wr.i64 (o219_.2 + 1)) + 1)) d223_.gBody.gKids) d223_.gFile)).set ((b210_).toNat) (GClause.mk d224_.gHead (GTerm.mk d224_.gBody.gKind d224_.gBody.gName d224_.gBody.gNum o225_.1) d224_.gFile))), io := [0], r := some (.v (.int .i64 o225_.2) []), outs := [(0, .v .undef [(0, .ex 1000000007 true (List.map GTerm.c o225_.1))])], ioc := [(0, .ex 1000000007 true (List.map GTerm.c d224_.gBody.gKids))] }] [] [0, 1, 5] [] [0] ⟨[(0, (.v (.slx), [(0, .al (.a 0 0) [])])), (1, (.v (.int .i64 o225_.2), [])), (5, (.v (.int .i64 b210_), []))], [], [(0, [(0, .ex 1000000007 true (List.map GClause.c ((((((((e211_.set ((b210_).toNat) (GClause.mk (GTerm.mk b209_ d214_.gHead.gName d214_.gHead.gNum d214_.gHead.gKids) d214_.gBody d214_.gFile)).set ((b210_).toNat) (GClause.mk (GTerm.mk d216_.gHead.gKind g215_ d216_.gHead.gNum d216_.gHead.gKids) d216_.gBody d216_.gFile)).set ((b210_).toNat) (GClause.mk (GTerm.mk d217_.gHead.gKind d217_.gHead.gName (wr.i64 ((wr.i64 (b209_ + 1)) + 1)) d217_.gHead.gKids) d217_.gBody d217_.gFile)).set ((b210_).toNat) (GClause.mk (GTerm.mk d218_.gHead.gKind d218_.gHead.gName d218_.gHead.gNum o219_.1) d218_.gBody d218_.gFile)).set ((b210_).toNat) (GClause.mk d220_.gHead (GTerm.mk o219_.2 d220_.gBody.gName d220_.gBody.gNum d220_.gBody.gKids) d220_.gFile)).set ((b210_).toNat) (GClause.mk d222_.gHead (GTerm.mk d222_.gBody.gKind g221_ d222_.gBody.gNum d222_.gBody.gKids) d222_.gFile)).set ((b210_).toNat) (GClause.mk d223_.gHead (GTerm.mk d223_.gBody.gKind d223_.gBody.gName (wr.i64 ((wr.i64 (o219_.2 + 1)) + 1)) d223_.gBody.gKids) d223_.gFile)).set ((b210_).toNat) (GClause.mk d224_.gHead (GTerm.mk d224_.gBody.gKind d224_.gBody.gName d224_.gBody.gNum o225_.1) d224_.gFile))))])]⟩ _ (by kernel_rfl) (.cons (ix_obl (c := GClause.c) GClause.c_len h190) (.cons (el_oblD (sz := 9) (off := 7) (s := 1) (ag := false) (v := .slx) (c := GClause.c) (GClause.c_eq d224_) (at'_spec h190).2 rfl (Nat.le_of_ble_eq_true rfl) rfl) (.cons (own_obl (own := [(0, .al (.a 0 0) [(((b210_).toNat), 9, 7)])]) (p := .a 0 0) (m := (b210_).toNat) (sz := 9) (off := 7) (js := [0]) rfl) (.cons (seg_obl (sz := 9) (off := 7) (n := [.sl (List.map GTerm.c d224_.gBody.gKids)]) (c := GClause.c) (GClause.c_eq d224_) (at'_spec h190).2 rfl (Nat.le_of_ble_eq_true rfl) rfl) (.cons (mod_obl (off := 7) (new := [.sl (List.map GTerm.c o225_.1)]) (c := GClause.c) (GClause.c_eq d224_) (GClause.c_eq (GClause.mk d224_.gHead (GTerm.mk d224_.gBody.gKind d224_.gBody.gName d224_.gBody.gNum o225_.1) d224_.gFile)) (at'_spec h190).2 rfl) (.cons (FnO.any (args := [.io (.slx) [(0, .ex 1000000007 true (List.map GTerm.c d224_.gBody.gKids))], .v (.int .i64 (wr.i64 ((wr.i64 ((wr.i64 (o219_.2 + 1)) + 1)) + 1))) []]) (claws_markTermS h191)) .nil)))))) ?_
        refine Wc.seq ?_
        obtain ⟨g226_, h192, h178⟩ := obind h178
        obtain ⟨d227_, h193, h178⟩ := obind h178
        refine Wc.region [{}, {}, {}, { r := some (.v (.str g226_) []) }, {}, {}, { c := some (List.map GClause.c (((((((((e211_.set ((b210_).toNat) (GClause.mk (GTerm.mk b209_ d214_.gHead.gName d214_.gHead.gNum d214_.gHead.gKids) d214_.gBody d214_.gFile)).set ((b210_).toNat) (GClause.mk (GTerm.mk d216_.gHead.gKind g215_ d216_.gHead.gNum d216_.gHead.gKids) d216_.gBody d216_.gFile)).set ((b210_).toNat) (GClause.mk (GTerm.mk d217_.gHead.gKind d217_.gHead.gName (wr.i64 ((wr.i64 (b209_ + 1)) + 1)) d217_.gHead.gKids) d217_.gBody d217_.gFile)).set ((b210_).toNat) (GClause.mk (GTerm.mk d218_.gHead.gKind d218_.gHead.gName d218_.gHead.gNum o219_.1) d218_.gBody d218_.gFile)).set ((b210_).toNat) (GClause.mk d220_.gHead (GTerm.mk o219_.2 d220_.gBody.gName d220_.gBody.gNum d220_.gBody.gKids) d220_.gFile)).set ((b210_).toNat) (GClause.mk d222_.gHead (GTerm.mk d222_.gBody.gKind g221_ d222_.gBody.gNum d222_.gBody.gKids) d222_.gFile)).set ((b210_).toNat) (GClause.mk d223_.gHead (GTerm.mk d223_.gBody.gKind d223_.gBody.gName (wr.i64 ((wr.i64 (o219_.2 + 1)) + 1)) d223_.gBody.gKids) d223_.gFile)).set ((b210_).toNat) (GClause.mk d224_.gHead (GTerm.mk d224_.gBody.gKind d224_.gBody.gName d224_.gBody.gNum o225_.1) d224_.gFile)).set ((b210_).toNat) (GClause.mk d227_.gHead d227_.gBody g226_))) }] [] [0, 1, 5] [] [0] ⟨[(0, (.v (.slx), [(0, .al (.a 0 0) [])])), (1, (.v (.int .i64 o225_.2), [])), (5, (.v (.int .i64 b210_), []))], [], [(0, [(0, .ex 1000000007 true (List.map GClause.c (((((((((e211_.set ((b210_).toNat) (GClause.mk (GTerm.mk b209_ d214_.gHead.gName d214_.gHead.gNum d214_.gHead.gKids) d214_.gBody d214_.gFile)).set ((b210_).toNat) (GClause.mk (GTerm.mk d216_.gHead.gKind g215_ d216_.gHead.gNum d216_.gHead.gKids) d216_.gBody d216_.gFile)).set ((b210_).toNat) (GClause.mk (GTerm.mk d217_.gHead.gKind d217_.gHead.gName (wr.i64 ((wr.i64 (b209_ + 1)) + 1)) d217_.gHead.gKids) d217_.gBody d217_.gFile)).set ((b210_).toNat) (GClause.mk (GTerm.mk d218_.gHead.gKind d218_.gHead.gName d218_.gHead.gNum o219_.1) d218_.gBody d218_.gFile)).set ((b210_).toNat) (GClause.mk d220_.gHead (GTerm.mk o219_.2 d220_.gBody.gName d220_.gBody.gNum d220_.gBody.gKids) d220_.gFile)).set ((b210_).toNat) (GClause.mk d222_.gHead (GTerm.mk d222_.gBody.gKind g221_ d222_.gBody.gNum d222_.gBody.gKids) d222_.gFile)).set ((b210_).toNat) (GClause.mk d223_.gHead (GTerm.mk d223_.gBody.gKind d223_.gBody.gName (wr.i64 ((wr.i64 (o219_.2 + 1)) + 1)) d223_.gBody.gKids) d223_.gFile)).set ((b210_).toNat) (GClause.mk d224_.gHead (GTerm.mk d224_.gBody.gKind d224_.gBody.gName d224_.gBody.gNum o225_.1) d224_.gFile)).set ((b210_).toNat) (GClause.mk d227_.gHead d227_.gBody g226_))))])]⟩ _ (by kernel_rfl) (.cons (claws_markText h192) (.cons (ix_obl (c := GClause.c) GClause.c_len h193) (.cons (mod_obl (off := 8) (new := [.str g226_]) (c := GClause.c) (GClause.c_eq d227_) (GClause.c_eq (GClause.mk d227_.gHead d227_.gBody g226_)) (at'_spec h193).2 rfl) (.cons (st_obl (sz := 9) (off := 8) (s := 1) (c := GClause.c) (GClause.c_eq d227_) (at'_spec h193).2 rfl (Nat.le_of_ble_eq_true rfl)) .nil)))) ?_
        refine Wc.region [] [] [0, 1, 5] [] [0] ⟨[(0, (.v (.slx), [(0, .al (.a 0 0) [])])), (1, (.v (.int .i64 (wr.i64 (o225_.2 + 1))), [])), (5, (.v (.int .i64 b210_), []))], [], [(0, [(0, .ex 1000000007 true (List.map GClause.c (((((((((e211_.set ((b210_).toNat) (GClause.mk (GTerm.mk b209_ d214_.gHead.gName d214_.gHead.gNum d214_.gHead.gKids) d214_.gBody d214_.gFile)).set ((b210_).toNat) (GClause.mk (GTerm.mk d216_.gHead.gKind g215_ d216_.gHead.gNum d216_.gHead.gKids) d216_.gBody d216_.gFile)).set ((b210_).toNat) (GClause.mk (GTerm.mk d217_.gHead.gKind d217_.gHead.gName (wr.i64 ((wr.i64 (b209_ + 1)) + 1)) d217_.gHead.gKids) d217_.gBody d217_.gFile)).set ((b210_).toNat) (GClause.mk (GTerm.mk d218_.gHead.gKind d218_.gHead.gName d218_.gHead.gNum o219_.1) d218_.gBody d218_.gFile)).set ((b210_).toNat) (GClause.mk d220_.gHead (GTerm.mk o219_.2 d220_.gBody.gName d220_.gBody.gNum d220_.gBody.gKids) d220_.gFile)).set ((b210_).toNat) (GClause.mk d222_.gHead (GTerm.mk d222_.gBody.gKind g221_ d222_.gBody.gNum d222_.gBody.gKids) d222_.gFile)).set ((b210_).toNat) (GClause.mk d223_.gHead (GTerm.mk d223_.gBody.gKind d223_.gBody.gName (wr.i64 ((wr.i64 (o219_.2 + 1)) + 1)) d223_.gBody.gKids) d223_.gFile)).set ((b210_).toNat) (GClause.mk d224_.gHead (GTerm.mk d224_.gBody.gKind d224_.gBody.gName d224_.gBody.gNum o225_.1) d224_.gFile)).set ((b210_).toNat) (GClause.mk d227_.gHead d227_.gBody g226_))))])]⟩ _ (by kernel_rfl) .nil ?_
        refine Wc.region [] [] [0, 1, 5] [] [0] ⟨[(0, (.v (.slx), [(0, .al (.a 0 0) [])])), (1, (.v (.int .i64 (wr.i64 (o225_.2 + 1))), [])), (5, (.v (.int .i64 (wr.i64 (b210_ + 1))), []))], [], [(0, [(0, .ex 1000000007 true (List.map GClause.c (((((((((e211_.set ((b210_).toNat) (GClause.mk (GTerm.mk b209_ d214_.gHead.gName d214_.gHead.gNum d214_.gHead.gKids) d214_.gBody d214_.gFile)).set ((b210_).toNat) (GClause.mk (GTerm.mk d216_.gHead.gKind g215_ d216_.gHead.gNum d216_.gHead.gKids) d216_.gBody d216_.gFile)).set ((b210_).toNat) (GClause.mk (GTerm.mk d217_.gHead.gKind d217_.gHead.gName (wr.i64 ((wr.i64 (b209_ + 1)) + 1)) d217_.gHead.gKids) d217_.gBody d217_.gFile)).set ((b210_).toNat) (GClause.mk (GTerm.mk d218_.gHead.gKind d218_.gHead.gName d218_.gHead.gNum o219_.1) d218_.gBody d218_.gFile)).set ((b210_).toNat) (GClause.mk d220_.gHead (GTerm.mk o219_.2 d220_.gBody.gName d220_.gBody.gNum d220_.gBody.gKids) d220_.gFile)).set ((b210_).toNat) (GClause.mk d222_.gHead (GTerm.mk d222_.gBody.gKind g221_ d222_.gBody.gNum d222_.gBody.gKids) d222_.gFile)).set ((b210_).toNat) (GClause.mk d223_.gHead (GTerm.mk d223_.gBody.gKind d223_.gBody.gName (wr.i64 ((wr.i64 (o219_.2 + 1)) + 1)) d223_.gBody.gKids) d223_.gFile)).set ((b210_).toNat) (GClause.mk d224_.gHead (GTerm.mk d224_.gBody.gKind d224_.gBody.gName d224_.gBody.gNum o225_.1) d224_.gFile)).set ((b210_).toNat) (GClause.mk d227_.gHead d227_.gBody g226_))))])]⟩ _ (by kernel_rfl) .nil ?_
        exact ⟨_, Nat.lt_succ_self _, _, _, _, rfl, h178⟩
      · refine Wc.condF h179 (by kernel_rfl) ?_
        refine Wc.fix (st' := ⟨[(1, (.v (.int .i64 b209_), []))], [], [(0, [(0, .ex 1000000007 true (List.map GClause.c e211_))])]⟩) [] [1] [] [0] (by kernel_rfl) ?_
        refine Wc.exit ?_
        obtain rfl := Option.some.inj h178
        exact ⟨_, _, rfl, rfl⟩
  · rintro st ⟨b212_, e213_, rfl, rfl⟩
    refine Wc.seq ?_
    refine Wc.region [] [] [4] [] [0] ⟨[(4, (.v (.int .i64 b212_), []))], [], [(0, [(0, .ex 1000000007 true (List.map GClause.c e213_))])]⟩ _ (by kernel_rfl) .nil ?_
    refine Wc.ret ?_
    obtain rfl := Option.some.inj h
    exact ⟨.inl rfl, by kernel_rfl, by kernel_rfl⟩

def plaws_markStringS_L1 (k : Nat) : Nat → Int → Int → (List ByteArray) → Option (Out ((List ByteArray) × Int) (Int × (List ByteArray)))
  | 0, _, _, _ => none
  | m + 1, b230_, b231_, f232_ =>
    if (decide (b231_ < (f232_.length : Int))) = true then
      (plaws_markText k b230_).bind fun g235_ =>
      (at' f232_ b231_).bind fun g236_ =>
      plaws_markStringS_L1 k m (wr.i64 (b230_ + 1)) (wr.i64 (b231_ + 1)) (f232_.set ((b231_).toNat) g235_)
    else
      some (.done (b230_, f232_))
/-- laws.markStringS -/
def plaws_markStringS (k : Nat) (f228_ : List ByteArray) (b229_ : Int) : Option ((List ByteArray) × Int) :=
  (plaws_markStringS_L1 k k b229_ 0 f228_).bind fun out1 => match out1 with
  | .ret r => some r
  | .done (b233_, f234_) =>
    some (f234_, b233_)
theorem claws_markStringS {k : Nat} {f228_ : List ByteArray} {b229_ : Int} {r : (List ByteArray) × Int} (h : plaws_markStringS k f228_ b229_ = some r) : FnO Try.prog 47 [.io (.slx) [(0, .ex 1000000007 true (List.map cS f228_))], .v (.int .i64 b229_) []] (.v (.int .i64 r.2) []) [(0, .v .undef [(0, .ex 1000000007 true (List.map cS r.1))])] := by
  refine FnO.of Try.func47 (rfl : Try.f47.body = some _) (Nat.le_of_ble_eq_true (by kernel_rfl)) (Nat.le_of_ble_eq_true (by kernel_rfl)) ?_
  intro w0 X0 Fin pv0 pb gt
  unfold plaws_markStringS at h
  refine Wc.seq ?_
  refine Wc.region [] [] [0, 1] [] [0] ⟨[(0, (.v (.slx), [(0, .al (.a 0 0) [])])), (1, (.v (.int .i64 b229_), []))], [], [(0, [(0, .ex 1000000007 true (List.map cS f228_))])]⟩ _ (by kernel_rfl) .nil ?_
  refine Wc.seq ?_
  refine Wc.seq ?_
  refine Wc.region [] [] [0, 1, 5] [] [0] ⟨[(0, (.v (.slx), [(0, .al (.a 0 0) [])])), (1, (.v (.int .i64 b229_), [])), (5, (.v (.int .i64 0), []))], [], [(0, [(0, .ex 1000000007 true (List.map cS f228_))])]⟩ _ (by kernel_rfl) .nil ?_
  obtain ⟨out1, h194, h⟩ := obind h
  refine Wc.lastJ (fun st => ∃ (b233_ : Int) (f234_ : List ByteArray), out1 = .done (b233_, f234_) ∧ st = ⟨[(1, (.v (.int .i64 b233_), []))], [], [(0, [(0, .ex 1000000007 true (List.map cS f234_))])]⟩) ?_ ?_
  · refine Wc.block ?_
    refine Wc.loop (fun m st => ∃ (b230_ : Int) (b231_ : Int) (f232_ : List ByteArray), st = ⟨[(0, (.v (.slx), [(0, .al (.a 0 0) [])])), (1, (.v (.int .i64 b230_), [])), (5, (.v (.int .i64 b231_), []))], [], [(0, [(0, .ex 1000000007 true (List.map cS f232_))])]⟩ ∧ plaws_markStringS_L1 k m b230_ b231_ f232_ = some out1) ?_ k ⟨_, _, _, rfl, h194⟩
    rintro m st ⟨b230_, b231_, f232_, rfl, h194⟩
    cases m with
    | zero => exact (onone h194).elim
    | succ m =>
      refine Wc.seq ?_
      refine Wc.seq ?_
      refine Wc.region [{}, {}, { v := some (.int .i64 (f232_.length : Int)) }] [] [0, 1, 5, 9] [] [0] ⟨[(0, (.v (.slx), [(0, .al (.a 0 0) [])])), (1, (.v (.int .i64 b230_), [])), (5, (.v (.int .i64 b231_), [])), (9, (.v (.bool (decide (b231_ < (f232_.length : Int)))), []))], [], [(0, [(0, .ex 1000000007 true (List.map cS f232_))])]⟩ _ (by kernel_rfl) (.cons (len_obl cS f232_) .nil) ?_
      rcases oif h194 with ⟨h195, h194⟩ | ⟨h195, h194⟩
      · refine Wc.condT h195 (by kernel_rfl) ?_
        refine Wc.fix (st' := ⟨[(0, (.v (.slx), [(0, .al (.a 0 0) [])])), (1, (.v (.int .i64 b230_), [])), (5, (.v (.int .i64 b231_), []))], [], [(0, [(0, .ex 1000000007 true (List.map cS f232_))])]⟩) [] [0, 1, 5] [] [0] (by kernel_rfl) ?_
        refine Wc.skip ?_
        refine Wc.seq ?_
        refine Wc.block ?_
        refine Wc.seq ?_
        obtain ⟨g235_, h196, h194⟩ := obind h194
        obtain ⟨g236_, h197, h194⟩ := obind h194
        refine Wc.region [{}, {}, {}, { r := some (.v (.str g235_) []) }, {}, { c := some (List.map cS (f232_.set ((b231_).toNat) g235_)) }] [] [0, 1, 5] [] [0] ⟨[(0, (.v (.slx), [(0, .al (.a 0 0) [])])), (1, (.v (.int .i64 b230_), [])), (5, (.v (.int .i64 b231_), []))], [], [(0, [(0, .ex 1000000007 true (List.map cS (f232_.set ((b231_).toNat) g235_)))])]⟩ _ (by kernel_rfl) (.cons (claws_markText h196) (.cons (ix_obl (c := cS) cS_len h197) (.cons (mod_obl (off := 0) (new := [.str g235_]) (c := cS) rfl rfl (at'_spec h197).2 rfl) (.cons (st_obl (sz := 1) (off := 0) (s := 1) (c := cS) rfl (at'_spec h197).2 rfl (Nat.le_of_ble_eq_true rfl)) .nil)))) ?_
        refine Wc.region [] [] [0, 1, 5] [] [0] ⟨[(0, (.v (.slx), [(0, .al (.a 0 0) [])])), (1, (.v (.int .i64 (wr.i64 (b230_ + 1))), [])), (5, (.v (.int .i64 b231_), []))], [], [(0, [(0, .ex 1000000007 true (List.map cS (f232_.set ((b231_).toNat) g235_)))])]⟩ _ (by kernel_rfl) .nil ?_
        refine Wc.region [] [] [0, 1, 5] [] [0] ⟨[(0, (.v (.slx), [(0, .al (.a 0 0) [])])), (1, (.v (.int .i64 (wr.i64 (b230_ + 1))), [])), (5, (.v (.int .i64 (wr.i64 (b231_ + 1))), []))], [], [(0, [(0, .ex 1000000007 true (List.map cS (f232_.set ((b231_).toNat) g235_)))])]⟩ _ (by kernel_rfl) .nil ?_
        exact ⟨_, Nat.lt_succ_self _, _, _, _, rfl, h194⟩
      · refine Wc.condF h195 (by kernel_rfl) ?_
        refine Wc.fix (st' := ⟨[(1, (.v (.int .i64 b230_), []))], [], [(0, [(0, .ex 1000000007 true (List.map cS f232_))])]⟩) [] [1] [] [0] (by kernel_rfl) ?_
        refine Wc.exit ?_
        obtain rfl := Option.some.inj h194
        exact ⟨_, _, rfl, rfl⟩
  · rintro st ⟨b233_, f234_, rfl, rfl⟩
    refine Wc.seq ?_
    refine Wc.region [] [] [4] [] [0] ⟨[(4, (.v (.int .i64 b233_), []))], [], [(0, [(0, .ex 1000000007 true (List.map cS f234_))])]⟩ _ (by kernel_rfl) .nil ?_
    refine Wc.ret ?_
    obtain rfl := Option.some.inj h
    exact ⟨.inl rfl, by kernel_rfl, by kernel_rfl⟩
end Go.Proofs.Ytkmifafdenblcaa

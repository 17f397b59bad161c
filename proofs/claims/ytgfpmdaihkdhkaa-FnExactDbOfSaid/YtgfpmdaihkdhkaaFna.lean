/- What the functions do, part 1. -/
import Derived.Test.YtgfpmdaihkdhkaaTy
set_option linter.unusedVariables false
set_option linter.unusedSimpArgs false
namespace Go.Proofs.Ytgfpmdaihkdhkaa
open Go.RowKit Go.Bv
def plaws_eqTermS_L1 (k : Nat) (rlaws_eqTerm : GTerm → GTerm → Option Bool) (rlaws_eqTermS : (List GTerm) → (List GTerm) → Option Bool) (a4_ : List GTerm) (a5_ : List GTerm) : Nat → Int → Option (Out Bool Unit)
  | 0, _ => none
  | m + 1, b6_ =>
    if (decide (b6_ < (a4_.length : Int))) = true then
      (at' a4_ b6_).bind fun c7_ =>
      (at' a5_ b6_).bind fun c8_ =>
      (rlaws_eqTerm c7_ c8_).bind fun d9_ =>
      if (!d9_) = true then
        some (.ret false)
      else
        plaws_eqTermS_L1 k rlaws_eqTerm rlaws_eqTermS a4_ a5_ m (wr.i64 (b6_ + 1))
    else
      some (.done ())
mutual
/-- laws.eqTerm -/
def plaws_eqTerm : Nat → GTerm → GTerm → Option Bool
  | 0, _, _ => none
  | k + 1, c1_, c2_ =>
    if (c1_.gKind != c2_.gKind) = true then
      some false
    else
      if (!(sEq c1_.gName c2_.gName)) = true then
        some false
      else
        if (c1_.gNum != c2_.gNum) = true then
          some false
        else
          (plaws_eqTermS k c1_.gKids c2_.gKids).bind fun d3_ =>
          if (!d3_) = true then
            some false
          else
            some true
/-- laws.eqTermS -/
def plaws_eqTermS : Nat → (List GTerm) → (List GTerm) → Option Bool
  | 0, _, _ => none
  | k + 1, a4_, a5_ =>
    if ((a4_.length : Int) != (a5_.length : Int)) = true then
      some false
    else
      (plaws_eqTermS_L1 k (plaws_eqTerm k) (plaws_eqTermS k) a4_ a5_ k 0).bind fun out1 => match out1 with
      | .ret r => some r
      | .done () =>
        some true
end
theorem all_plaws_eqTerm : ∀ k : Nat, (∀ {c1_ : GTerm} {c2_ : GTerm} {r : Bool}, plaws_eqTerm k c1_ c2_ = some r → FnO Try.prog 20 [.v (.agg [.int .i64 c1_.gKind, .str c1_.gName, .int .i64 c1_.gNum, .sl (List.map GTerm.c c1_.gKids)]) [], .v (.agg [.int .i64 c2_.gKind, .str c2_.gName, .int .i64 c2_.gNum, .sl (List.map GTerm.c c2_.gKids)]) []] (.v (.bool r) []) []) ∧
    (∀ {a4_ : List GTerm} {a5_ : List GTerm} {r : Bool}, plaws_eqTermS k a4_ a5_ = some r → FnO Try.prog 71 [.v (.sl (List.map GTerm.c a4_)) [], .v (.sl (List.map GTerm.c a5_)) []] (.v (.bool r) []) []) := by
  intro k
  induction k with
  | zero =>
    refine ⟨?_, ?_⟩
    · intro c1_ c2_ r h
      exact (onone (by rw [plaws_eqTerm] at h; exact h)).elim
    · intro a4_ a5_ r h
      exact (onone (by rw [plaws_eqTermS] at h; exact h)).elim
  | succ k ih =>
    obtain ⟨ih_plaws_eqTerm, ih_plaws_eqTermS⟩ := ih
    refine ⟨?_, ?_⟩
    · intro c1_ c2_ r h
      rw [plaws_eqTerm] at h
      refine FnO.of Try.func20 (rfl : Try.f20.body = some _) (Nat.le_of_ble_eq_true (by kernel_rfl)) (Nat.le_of_ble_eq_true (by kernel_rfl)) ?_
      intro w0 X0 Fin pv0 pb
      refine Wc.seq ?_
      refine Wc.region [] [] [2, 3] [2, 3] [] ⟨[(2, (.ptr 2 0, [])), (3, (.ptr 3 0, []))], [(2, .cells [.int .i64 c1_.gKind, .str c1_.gName, .int .i64 c1_.gNum, .sl (List.map GTerm.c c1_.gKids)] []), (3, .cells [.int .i64 c2_.gKind, .str c2_.gName, .int .i64 c2_.gNum, .sl (List.map GTerm.c c2_.gKids)] [])], []⟩ _ (by kernel_rfl) .nil ?_
      refine Wc.seq ?_
      refine Wc.seq ?_
      refine Wc.region [] [] [2, 3, 9] [2, 3] [] ⟨[(2, (.ptr 2 0, [])), (3, (.ptr 3 0, [])), (9, (.v (.bool (c1_.gKind != c2_.gKind)), []))], [(2, .cells [.int .i64 c1_.gKind, .str c1_.gName, .int .i64 c1_.gNum, .sl (List.map GTerm.c c1_.gKids)] []), (3, .cells [.int .i64 c2_.gKind, .str c2_.gName, .int .i64 c2_.gNum, .sl (List.map GTerm.c c2_.gKids)] [])], []⟩ _ (by kernel_rfl) .nil ?_
      rcases oif h with ⟨h1, h⟩ | ⟨h1, h⟩
      · refine Wc.condT h1 (by kernel_rfl) ?_
        refine Wc.seq ?_
        refine Wc.region [] [] [4] [] [] ⟨[(4, (.v (.bool false), []))], [], []⟩ _ (by kernel_rfl) .nil ?_
        refine Wc.ret ?_
        obtain rfl := Option.some.inj h
        exact ⟨.inl rfl, by kernel_rfl, by kernel_rfl⟩
      · refine Wc.condF h1 (by kernel_rfl) ?_
        refine Wc.fix (st' := ⟨[(2, (.ptr 2 0, [])), (3, (.ptr 3 0, []))], [(2, .cells [.int .i64 c1_.gKind, .str c1_.gName, .int .i64 c1_.gNum, .sl (List.map GTerm.c c1_.gKids)] []), (3, .cells [.int .i64 c2_.gKind, .str c2_.gName, .int .i64 c2_.gNum, .sl (List.map GTerm.c c2_.gKids)] [])], []⟩) [] [2, 3] [2, 3] [] (by kernel_rfl) ?_
        refine Wc.skip ?_
        refine Wc.seq ?_
        refine Wc.seq ?_
        refine Wc.region [] [] [2, 3, 14] [2, 3] [] ⟨[(2, (.ptr 2 0, [])), (3, (.ptr 3 0, [])), (14, (.v (.bool (!(sEq c1_.gName c2_.gName))), []))], [(2, .cells [.int .i64 c1_.gKind, .str c1_.gName, .int .i64 c1_.gNum, .sl (List.map GTerm.c c1_.gKids)] []), (3, .cells [.int .i64 c2_.gKind, .str c2_.gName, .int .i64 c2_.gNum, .sl (List.map GTerm.c c2_.gKids)] [])], []⟩ _ (by kernel_rfl) .nil ?_
        rcases oif h with ⟨h2, h⟩ | ⟨h2, h⟩
        · refine Wc.condT h2 (by kernel_rfl) ?_
          refine Wc.seq ?_
          refine Wc.region [] [] [4] [] [] ⟨[(4, (.v (.bool false), []))], [], []⟩ _ (by kernel_rfl) .nil ?_
          refine Wc.ret ?_
          obtain rfl := Option.some.inj h
          exact ⟨.inl rfl, by kernel_rfl, by kernel_rfl⟩
        · refine Wc.condF h2 (by kernel_rfl) ?_
          refine Wc.fix (st' := ⟨[(2, (.ptr 2 0, [])), (3, (.ptr 3 0, []))], [(2, .cells [.int .i64 c1_.gKind, .str c1_.gName, .int .i64 c1_.gNum, .sl (List.map GTerm.c c1_.gKids)] []), (3, .cells [.int .i64 c2_.gKind, .str c2_.gName, .int .i64 c2_.gNum, .sl (List.map GTerm.c c2_.gKids)] [])], []⟩) [] [2, 3] [2, 3] [] (by kernel_rfl) ?_
          refine Wc.skip ?_
          refine Wc.seq ?_
          refine Wc.seq ?_
          refine Wc.region [] [] [2, 3, 19] [2, 3] [] ⟨[(2, (.ptr 2 0, [])), (3, (.ptr 3 0, [])), (19, (.v (.bool (c1_.gNum != c2_.gNum)), []))], [(2, .cells [.int .i64 c1_.gKind, .str c1_.gName, .int .i64 c1_.gNum, .sl (List.map GTerm.c c1_.gKids)] []), (3, .cells [.int .i64 c2_.gKind, .str c2_.gName, .int .i64 c2_.gNum, .sl (List.map GTerm.c c2_.gKids)] [])], []⟩ _ (by kernel_rfl) .nil ?_
          rcases oif h with ⟨h3, h⟩ | ⟨h3, h⟩
          · refine Wc.condT h3 (by kernel_rfl) ?_
            refine Wc.seq ?_
            refine Wc.region [] [] [4] [] [] ⟨[(4, (.v (.bool false), []))], [], []⟩ _ (by kernel_rfl) .nil ?_
            refine Wc.ret ?_
            obtain rfl := Option.some.inj h
            exact ⟨.inl rfl, by kernel_rfl, by kernel_rfl⟩
          · refine Wc.condF h3 (by kernel_rfl) ?_
            refine Wc.fix (st' := ⟨[(2, (.ptr 2 0, [])), (3, (.ptr 3 0, []))], [(2, .cells [.int .i64 c1_.gKind, .str c1_.gName, .int .i64 c1_.gNum, .sl (List.map GTerm.c c1_.gKids)] []), (3, .cells [.int .i64 c2_.gKind, .str c2_.gName, .int .i64 c2_.gNum, .sl (List.map GTerm.c c2_.gKids)] [])], []⟩) [] [2, 3] [2, 3] [] (by kernel_rfl) ?_
            refine Wc.skip ?_
            refine Wc.seq ?_
            refine Wc.seq ?_
            obtain ⟨d3_, h4, h⟩ := obind h
            refine Wc.region [{}, {}, {}, {}, { r := some (.v (.bool d3_) []) }] [] [25] [] [] ⟨[(25, (.v (.bool (!d3_)), []))], [], []⟩ _ (by kernel_rfl) (.cons (ih_plaws_eqTermS h4) .nil) ?_
            rcases oif h with ⟨h5, h⟩ | ⟨h5, h⟩
            · refine Wc.condT h5 (by kernel_rfl) ?_
              refine Wc.seq ?_
              refine Wc.region [] [] [4] [] [] ⟨[(4, (.v (.bool false), []))], [], []⟩ _ (by kernel_rfl) .nil ?_
              refine Wc.ret ?_
              obtain rfl := Option.some.inj h
              exact ⟨.inl rfl, by kernel_rfl, by kernel_rfl⟩
            · refine Wc.condF h5 (by kernel_rfl) ?_
              refine Wc.fix (st' := ⟨[], [], []⟩) [] [] [] [] (by kernel_rfl) ?_
              refine Wc.skip ?_
              refine Wc.seq ?_
              refine Wc.region [] [] [4] [] [] ⟨[(4, (.v (.bool true), []))], [], []⟩ _ (by kernel_rfl) .nil ?_
              refine Wc.ret ?_
              obtain rfl := Option.some.inj h
              exact ⟨.inl rfl, by kernel_rfl, by kernel_rfl⟩
    · intro a4_ a5_ r h
      rw [plaws_eqTermS] at h
      refine FnO.of Try.func71 (rfl : Try.f71.body = some _) (Nat.le_of_ble_eq_true (by kernel_rfl)) (Nat.le_of_ble_eq_true (by kernel_rfl)) ?_
      intro w0 X0 Fin pv0 pb
      refine Wc.seq ?_
      refine Wc.region [] [] [0, 1] [] [] ⟨[(0, (.v (.sl (List.map GTerm.c a4_)), [])), (1, (.v (.sl (List.map GTerm.c a5_)), []))], [], []⟩ _ (by kernel_rfl) .nil ?_
      refine Wc.seq ?_
      refine Wc.seq ?_
      refine Wc.region [{}, { v := some (.int .i64 (a4_.length : Int)) }, {}, { v := some (.int .i64 (a5_.length : Int)) }] [] [0, 1, 10] [] [] ⟨[(0, (.v (.sl (List.map GTerm.c a4_)), [])), (1, (.v (.sl (List.map GTerm.c a5_)), [])), (10, (.v (.bool ((a4_.length : Int) != (a5_.length : Int))), []))], [], []⟩ _ (by kernel_rfl) (.cons (len_obl GTerm.c a4_) (.cons (len_obl GTerm.c a5_) .nil)) ?_
      rcases oif h with ⟨h6, h⟩ | ⟨h6, h⟩
      · refine Wc.condT h6 (by kernel_rfl) ?_
        refine Wc.seq ?_
        refine Wc.region [] [] [4] [] [] ⟨[(4, (.v (.bool false), []))], [], []⟩ _ (by kernel_rfl) .nil ?_
        refine Wc.ret ?_
        obtain rfl := Option.some.inj h
        exact ⟨.inl rfl, by kernel_rfl, by kernel_rfl⟩
      · refine Wc.condF h6 (by kernel_rfl) ?_
        refine Wc.fix (st' := ⟨[(0, (.v (.sl (List.map GTerm.c a4_)), [])), (1, (.v (.sl (List.map GTerm.c a5_)), []))], [], []⟩) [] [0, 1] [] [] (by kernel_rfl) ?_
        refine Wc.skip ?_
        refine Wc.seq ?_
        refine Wc.seq ?_
        refine Wc.region [] [] [0, 1, 5] [] [] ⟨[(0, (.v (.sl (List.map GTerm.c a4_)), [])), (1, (.v (.sl (List.map GTerm.c a5_)), [])), (5, (.v (.int .i64 0), []))], [], []⟩ _ (by kernel_rfl) .nil ?_
        obtain ⟨out1, h7, h⟩ := obind h
        refine Wc.lastJ (fun st => out1 = .done () ∧ st = ⟨[], [], []⟩) ?_ ?_
        · refine Wc.block ?_
          refine Wc.loop (fun m st => ∃ (b6_ : Int), st = ⟨[(0, (.v (.sl (List.map GTerm.c a4_)), [])), (1, (.v (.sl (List.map GTerm.c a5_)), [])), (5, (.v (.int .i64 b6_), []))], [], []⟩ ∧ plaws_eqTermS_L1 k (plaws_eqTerm k) (plaws_eqTermS k) a4_ a5_ m b6_ = some out1) ?_ k ⟨_, rfl, h7⟩
          rintro m st ⟨b6_, rfl, h7⟩
          cases m with
          | zero => exact (onone h7).elim
          | succ m =>
            refine Wc.seq ?_
            refine Wc.seq ?_
            refine Wc.region [{}, {}, { v := some (.int .i64 (a4_.length : Int)) }] [] [0, 1, 5, 14] [] [] ⟨[(0, (.v (.sl (List.map GTerm.c a4_)), [])), (1, (.v (.sl (List.map GTerm.c a5_)), [])), (5, (.v (.int .i64 b6_), [])), (14, (.v (.bool (decide (b6_ < (a4_.length : Int)))), []))], [], []⟩ _ (by kernel_rfl) (.cons (len_obl GTerm.c a4_) .nil) ?_
            rcases oif h7 with ⟨h8, h7⟩ | ⟨h8, h7⟩
            · refine Wc.condT h8 (by kernel_rfl) ?_
              refine Wc.fix (st' := ⟨[(0, (.v (.sl (List.map GTerm.c a4_)), [])), (1, (.v (.sl (List.map GTerm.c a5_)), [])), (5, (.v (.int .i64 b6_), []))], [], []⟩) [] [0, 1, 5] [] [] (by kernel_rfl) ?_
              refine Wc.skip ?_
              refine Wc.seq ?_
              refine Wc.block ?_
              refine Wc.seq ?_
              obtain ⟨c7_, h9, h7⟩ := obind h7
              obtain ⟨c8_, h10, h7⟩ := obind h7
              obtain ⟨d9_, h11, h7⟩ := obind h7
              refine Wc.draw hmix [{}, {}, { v := some (.vptr [.int .i64 c7_.gKind, .str c7_.gName, .int .i64 c7_.gNum, .sl (List.map GTerm.c c7_.gKids)]) }, {}, {}, {}, { v := some (.vptr [.int .i64 c8_.gKind, .str c8_.gName, .int .i64 c8_.gNum, .sl (List.map GTerm.c c8_.gKids)]) }, {}, { r := some (.v (.bool d9_) []) }] [] [0, 1, 5, 26] [] [] ⟨[(0, (.v (.sl (List.map GTerm.c a4_)), [])), (1, (.v (.sl (List.map GTerm.c a5_)), [])), (5, (.v (.int .i64 b6_), [])), (26, (.v (.bool (!d9_)), []))], [], []⟩ _ (by kernel_rfl) (fun X => by kernel_rfl) (.cons (at_obl (c := GTerm.c) (GTerm.c_eq c7_) GTerm.c_len h9) (.cons (len_ok 4 [.int .i64 c7_.gKind, .str c7_.gName, .int .i64 c7_.gNum, .sl (List.map GTerm.c c7_.gKids)]) (.cons (at_obl (c := GTerm.c) (GTerm.c_eq c8_) GTerm.c_len h10) (.cons (len_ok 4 [.int .i64 c8_.gKind, .str c8_.gName, .int .i64 c8_.gNum, .sl (List.map GTerm.c c8_.gKids)]) (.cons (ih_plaws_eqTerm h11) .nil))))) ?_
              rcases oif h7 with ⟨h12, h7⟩ | ⟨h12, h7⟩
              · refine Wc.condT h12 (by kernel_rfl) ?_
                refine Wc.seq ?_
                refine Wc.region [] [] [4] [] [] ⟨[(4, (.v (.bool false), []))], [], []⟩ _ (by kernel_rfl) .nil ?_
                refine Wc.ret ?_
                obtain rfl := Option.some.inj h7
                obtain rfl := Option.some.inj h
                exact ⟨.inl rfl, by kernel_rfl, by kernel_rfl⟩
              · refine Wc.condF h12 (by kernel_rfl) ?_
                refine Wc.fix (st' := ⟨[(0, (.v (.sl (List.map GTerm.c a4_)), [])), (1, (.v (.sl (List.map GTerm.c a5_)), [])), (5, (.v (.int .i64 b6_), []))], [], []⟩) [] [0, 1, 5] [] [] (by kernel_rfl) ?_
                refine Wc.skip ?_
                refine Wc.region [] [] [0, 1, 5] [] [] ⟨[(0, (.v (.sl (List.map GTerm.c a4_)), [])), (1, (.v (.sl (List.map GTerm.c a5_)), [])), (5, (.v (.int .i64 (wr.i64 (b6_ + 1))), []))], [], []⟩ _ (by kernel_rfl) .nil ?_
                exact ⟨_, Nat.lt_succ_self _, _, rfl, h7⟩
            · refine Wc.condF h8 (by kernel_rfl) ?_
              refine Wc.fix (st' := ⟨[], [], []⟩) [] [] [] [] (by kernel_rfl) ?_
              refine Wc.exit ?_
              obtain rfl := Option.some.inj h7
              exact ⟨rfl, rfl⟩
        · rintro st ⟨rfl, rfl⟩
          refine Wc.seq ?_
          refine Wc.region [] [] [4] [] [] ⟨[(4, (.v (.bool true), []))], [], []⟩ _ (by kernel_rfl) .nil ?_
          refine Wc.ret ?_
          obtain rfl := Option.some.inj h
          exact ⟨.inl rfl, by kernel_rfl, by kernel_rfl⟩
theorem claws_eqTerm {k : Nat} {c1_ : GTerm} {c2_ : GTerm} {r : Bool} (h : plaws_eqTerm k c1_ c2_ = some r) : FnO Try.prog 20 [.v (.agg [.int .i64 c1_.gKind, .str c1_.gName, .int .i64 c1_.gNum, .sl (List.map GTerm.c c1_.gKids)]) [], .v (.agg [.int .i64 c2_.gKind, .str c2_.gName, .int .i64 c2_.gNum, .sl (List.map GTerm.c c2_.gKids)]) []] (.v (.bool r) []) [] := (all_plaws_eqTerm k).1 h
theorem claws_eqTermS {k : Nat} {a4_ : List GTerm} {a5_ : List GTerm} {r : Bool} (h : plaws_eqTermS k a4_ a5_ = some r) : FnO Try.prog 71 [.v (.sl (List.map GTerm.c a4_)) [], .v (.sl (List.map GTerm.c a5_)) []] (.v (.bool r) []) [] := (all_plaws_eqTerm k).2 h

/-- laws.eqClause -/
def plaws_eqClause (k : Nat) (e10_ : GClause) (e11_ : GClause) : Option Bool :=
  (plaws_eqTerm k e10_.gHead e11_.gHead).bind fun d12_ =>
  if (!d12_) = true then
    some false
  else
    (plaws_eqTerm k e10_.gBody e11_.gBody).bind fun d13_ =>
    if (!d13_) = true then
      some false
    else
      if (!(sEq e10_.gFile e11_.gFile)) = true then
        some false
      else
        some true
theorem claws_eqClause {k : Nat} {e10_ : GClause} {e11_ : GClause} {r : Bool} (h : plaws_eqClause k e10_ e11_ = some r) : FnO Try.prog 30 [.v (.agg [.int .i64 e10_.gHead.gKind, .str e10_.gHead.gName, .int .i64 e10_.gHead.gNum, .sl (List.map GTerm.c e10_.gHead.gKids), .int .i64 e10_.gBody.gKind, .str e10_.gBody.gName, .int .i64 e10_.gBody.gNum, .sl (List.map GTerm.c e10_.gBody.gKids), .str e10_.gFile]) [], .v (.agg [.int .i64 e11_.gHead.gKind, .str e11_.gHead.gName, .int .i64 e11_.gHead.gNum, .sl (List.map GTerm.c e11_.gHead.gKids), .int .i64 e11_.gBody.gKind, .str e11_.gBody.gName, .int .i64 e11_.gBody.gNum, .sl (List.map GTerm.c e11_.gBody.gKids), .str e11_.gFile]) []] (.v (.bool r) []) [] := by
  refine FnO.of Try.func30 (rfl : Try.f30.body = some _) (Nat.le_of_ble_eq_true (by kernel_rfl)) (Nat.le_of_ble_eq_true (by kernel_rfl)) ?_
  intro w0 X0 Fin pv0 pb
  unfold plaws_eqClause at h
  refine Wc.seq ?_
  refine Wc.region [] [] [2, 3] [2, 3] [] ⟨[(2, (.ptr 2 0, [])), (3, (.ptr 3 0, []))], [(2, .cells [.int .i64 e10_.gHead.gKind, .str e10_.gHead.gName, .int .i64 e10_.gHead.gNum, .sl (List.map GTerm.c e10_.gHead.gKids), .int .i64 e10_.gBody.gKind, .str e10_.gBody.gName, .int .i64 e10_.gBody.gNum, .sl (List.map GTerm.c e10_.gBody.gKids), .str e10_.gFile] []), (3, .cells [.int .i64 e11_.gHead.gKind, .str e11_.gHead.gName, .int .i64 e11_.gHead.gNum, .sl (List.map GTerm.c e11_.gHead.gKids), .int .i64 e11_.gBody.gKind, .str e11_.gBody.gName, .int .i64 e11_.gBody.gNum, .sl (List.map GTerm.c e11_.gBody.gKids), .str e11_.gFile] [])], []⟩ _ (by kernel_rfl) .nil ?_
  refine Wc.seq ?_
  refine Wc.seq ?_
  obtain ⟨d12_, h13, h⟩ := obind h
  refine Wc.region [{}, {}, {}, {}, { r := some (.v (.bool d12_) []) }] [] [2, 3, 10] [2, 3] [] ⟨[(2, (.ptr 2 0, [])), (3, (.ptr 3 0, [])), (10, (.v (.bool (!d12_)), []))], [(2, .cells [.int .i64 e10_.gHead.gKind, .str e10_.gHead.gName, .int .i64 e10_.gHead.gNum, .sl (List.map GTerm.c e10_.gHead.gKids), .int .i64 e10_.gBody.gKind, .str e10_.gBody.gName, .int .i64 e10_.gBody.gNum, .sl (List.map GTerm.c e10_.gBody.gKids), .str e10_.gFile] []), (3, .cells [.int .i64 e11_.gHead.gKind, .str e11_.gHead.gName, .int .i64 e11_.gHead.gNum, .sl (List.map GTerm.c e11_.gHead.gKids), .int .i64 e11_.gBody.gKind, .str e11_.gBody.gName, .int .i64 e11_.gBody.gNum, .sl (List.map GTerm.c e11_.gBody.gKids), .str e11_.gFile] [])], []⟩ _ (by kernel_rfl) (.cons (claws_eqTerm h13) .nil) ?_
  rcases oif h with ⟨h14, h⟩ | ⟨h14, h⟩
  · refine Wc.condT h14 (by kernel_rfl) ?_
    refine Wc.seq ?_
    refine Wc.region [] [] [4] [] [] ⟨[(4, (.v (.bool false), []))], [], []⟩ _ (by kernel_rfl) .nil ?_
    refine Wc.ret ?_
    obtain rfl := Option.some.inj h
    exact ⟨.inl rfl, by kernel_rfl, by kernel_rfl⟩
  · refine Wc.condF h14 (by kernel_rfl) ?_
    refine Wc.fix (st' := ⟨[(2, (.ptr 2 0, [])), (3, (.ptr 3 0, []))], [(2, .cells [.int .i64 e10_.gHead.gKind, .str e10_.gHead.gName, .int .i64 e10_.gHead.gNum, .sl (List.map GTerm.c e10_.gHead.gKids), .int .i64 e10_.gBody.gKind, .str e10_.gBody.gName, .int .i64 e10_.gBody.gNum, .sl (List.map GTerm.c e10_.gBody.gKids), .str e10_.gFile] []), (3, .cells [.int .i64 e11_.gHead.gKind, .str e11_.gHead.gName, .int .i64 e11_.gHead.gNum, .sl (List.map GTerm.c e11_.gHead.gKids), .int .i64 e11_.gBody.gKind, .str e11_.gBody.gName, .int .i64 e11_.gBody.gNum, .sl (List.map GTerm.c e11_.gBody.gKids), .str e11_.gFile] [])], []⟩) [] [2, 3] [2, 3] [] (by kernel_rfl) ?_
    refine Wc.skip ?_
    refine Wc.seq ?_
    refine Wc.seq ?_
    obtain ⟨d13_, h15, h⟩ := obind h
    refine Wc.region [{}, {}, {}, {}, { r := some (.v (.bool d13_) []) }] [] [2, 3, 16] [2, 3] [] ⟨[(2, (.ptr 2 0, [])), (3, (.ptr 3 0, [])), (16, (.v (.bool (!d13_)), []))], [(2, .cells [.int .i64 e10_.gHead.gKind, .str e10_.gHead.gName, .int .i64 e10_.gHead.gNum, .sl (List.map GTerm.c e10_.gHead.gKids), .int .i64 e10_.gBody.gKind, .str e10_.gBody.gName, .int .i64 e10_.gBody.gNum, .sl (List.map GTerm.c e10_.gBody.gKids), .str e10_.gFile] []), (3, .cells [.int .i64 e11_.gHead.gKind, .str e11_.gHead.gName, .int .i64 e11_.gHead.gNum, .sl (List.map GTerm.c e11_.gHead.gKids), .int .i64 e11_.gBody.gKind, .str e11_.gBody.gName, .int .i64 e11_.gBody.gNum, .sl (List.map GTerm.c e11_.gBody.gKids), .str e11_.gFile] [])], []⟩ _ (by kernel_rfl) (.cons (claws_eqTerm h15) .nil) ?_
    rcases oif h with ⟨h16, h⟩ | ⟨h16, h⟩
    · refine Wc.condT h16 (by kernel_rfl) ?_
      refine Wc.seq ?_
      refine Wc.region [] [] [4] [] [] ⟨[(4, (.v (.bool false), []))], [], []⟩ _ (by kernel_rfl) .nil ?_
      refine Wc.ret ?_
      obtain rfl := Option.some.inj h
      exact ⟨.inl rfl, by kernel_rfl, by kernel_rfl⟩
    · refine Wc.condF h16 (by kernel_rfl) ?_
      refine Wc.fix (st' := ⟨[(2, (.ptr 2 0, [])), (3, (.ptr 3 0, []))], [(2, .cells [.int .i64 e10_.gHead.gKind, .str e10_.gHead.gName, .int .i64 e10_.gHead.gNum, .sl (List.map GTerm.c e10_.gHead.gKids), .int .i64 e10_.gBody.gKind, .str e10_.gBody.gName, .int .i64 e10_.gBody.gNum, .sl (List.map GTerm.c e10_.gBody.gKids), .str e10_.gFile] []), (3, .cells [.int .i64 e11_.gHead.gKind, .str e11_.gHead.gName, .int .i64 e11_.gHead.gNum, .sl (List.map GTerm.c e11_.gHead.gKids), .int .i64 e11_.gBody.gKind, .str e11_.gBody.gName, .int .i64 e11_.gBody.gNum, .sl (List.map GTerm.c e11_.gBody.gKids), .str e11_.gFile] [])], []⟩) [] [2, 3] [2, 3] [] (by kernel_rfl) ?_
      refine Wc.skip ?_
      refine Wc.seq ?_
      refine Wc.seq ?_
      refine Wc.region [] [] [21] [] [] ⟨[(21, (.v (.bool (!(sEq e10_.gFile e11_.gFile))), []))], [], []⟩ _ (by kernel_rfl) .nil ?_
      rcases oif h with ⟨h17, h⟩ | ⟨h17, h⟩
      · refine Wc.condT h17 (by kernel_rfl) ?_
        refine Wc.seq ?_
        refine Wc.region [] [] [4] [] [] ⟨[(4, (.v (.bool false), []))], [], []⟩ _ (by kernel_rfl) .nil ?_
        refine Wc.ret ?_
        obtain rfl := Option.some.inj h
        exact ⟨.inl rfl, by kernel_rfl, by kernel_rfl⟩
      · refine Wc.condF h17 (by kernel_rfl) ?_
        refine Wc.fix (st' := ⟨[], [], []⟩) [] [] [] [] (by kernel_rfl) ?_
        refine Wc.skip ?_
        refine Wc.seq ?_
        refine Wc.region [] [] [4] [] [] ⟨[(4, (.v (.bool true), []))], [], []⟩ _ (by kernel_rfl) .nil ?_
        refine Wc.ret ?_
        obtain rfl := Option.some.inj h
        exact ⟨.inl rfl, by kernel_rfl, by kernel_rfl⟩

def plaws_eqClauseS_L1 (k : Nat) (f14_ : List GClause) (f15_ : List GClause) : Nat → Int → Option (Out Bool Unit)
  | 0, _ => none
  | m + 1, b16_ =>
    if (decide (b16_ < (f14_.length : Int))) = true then
      (at' f14_ b16_).bind fun e17_ =>
      (at' f15_ b16_).bind fun e18_ =>
      (plaws_eqClause k e17_ e18_).bind fun d19_ =>
      if (!d19_) = true then
        some (.ret false)
      else
        plaws_eqClauseS_L1 k f14_ f15_ m (wr.i64 (b16_ + 1))
    else
      some (.done ())
/-- laws.eqClauseS -/
def plaws_eqClauseS (k : Nat) (f14_ : List GClause) (f15_ : List GClause) : Option Bool :=
  if ((f14_.length : Int) != (f15_.length : Int)) = true then
    some false
  else
    (plaws_eqClauseS_L1 k f14_ f15_ k 0).bind fun out1 => match out1 with
    | .ret r => some r
    | .done () =>
      some true
theorem claws_eqClauseS {k : Nat} {f14_ : List GClause} {f15_ : List GClause} {r : Bool} (h : plaws_eqClauseS k f14_ f15_ = some r) : FnO Try.prog 57 [.v (.sl (List.map GClause.c f14_)) [], .v (.sl (List.map GClause.c f15_)) []] (.v (.bool r) []) [] := by
  refine FnO.of Try.func57 (rfl : Try.f57.body = some _) (Nat.le_of_ble_eq_true (by kernel_rfl)) (Nat.le_of_ble_eq_true (by kernel_rfl)) ?_
  intro w0 X0 Fin pv0 pb
  unfold plaws_eqClauseS at h
  refine Wc.seq ?_
  refine Wc.region [] [] [0, 1] [] [] ⟨[(0, (.v (.sl (List.map GClause.c f14_)), [])), (1, (.v (.sl (List.map GClause.c f15_)), []))], [], []⟩ _ (by kernel_rfl) .nil ?_
  refine Wc.seq ?_
  refine Wc.seq ?_
  refine Wc.region [{}, { v := some (.int .i64 (f14_.length : Int)) }, {}, { v := some (.int .i64 (f15_.length : Int)) }] [] [0, 1, 10] [] [] ⟨[(0, (.v (.sl (List.map GClause.c f14_)), [])), (1, (.v (.sl (List.map GClause.c f15_)), [])), (10, (.v (.bool ((f14_.length : Int) != (f15_.length : Int))), []))], [], []⟩ _ (by kernel_rfl) (.cons (len_obl GClause.c f14_) (.cons (len_obl GClause.c f15_) .nil)) ?_
  rcases oif h with ⟨h18, h⟩ | ⟨h18, h⟩
  · refine Wc.condT h18 (by kernel_rfl) ?_
    refine Wc.seq ?_
    refine Wc.region [] [] [4] [] [] ⟨[(4, (.v (.bool false), []))], [], []⟩ _ (by kernel_rfl) .nil ?_
    refine Wc.ret ?_
    obtain rfl := Option.some.inj h
    exact ⟨.inl rfl, by kernel_rfl, by kernel_rfl⟩
  · refine Wc.condF h18 (by kernel_rfl) ?_
    refine Wc.fix (st' := ⟨[(0, (.v (.sl (List.map GClause.c f14_)), [])), (1, (.v (.sl (List.map GClause.c f15_)), []))], [], []⟩) [] [0, 1] [] [] (by kernel_rfl) ?_
    refine Wc.skip ?_
    refine Wc.seq ?_
    refine Wc.seq ?_
    refine Wc.region [] [] [0, 1, 5] [] [] ⟨[(0, (.v (.sl (List.map GClause.c f14_)), [])), (1, (.v (.sl (List.map GClause.c f15_)), [])), (5, (.v (.int .i64 0), []))], [], []⟩ _ (by kernel_rfl) .nil ?_
    obtain ⟨out1, h19, h⟩ := obind h
    refine Wc.lastJ (fun st => out1 = .done () ∧ st = ⟨[], [], []⟩) ?_ ?_
    · refine Wc.block ?_
      refine Wc.loop (fun m st => ∃ (b16_ : Int), st = ⟨[(0, (.v (.sl (List.map GClause.c f14_)), [])), (1, (.v (.sl (List.map GClause.c f15_)), [])), (5, (.v (.int .i64 b16_), []))], [], []⟩ ∧ plaws_eqClauseS_L1 k f14_ f15_ m b16_ = some out1) ?_ k ⟨_, rfl, h19⟩
      rintro m st ⟨b16_, rfl, h19⟩
      cases m with
      | zero => exact (onone h19).elim
      | succ m =>
        refine Wc.seq ?_
        refine Wc.seq ?_
        refine Wc.region [{}, {}, { v := some (.int .i64 (f14_.length : Int)) }] [] [0, 1, 5, 14] [] [] ⟨[(0, (.v (.sl (List.map GClause.c f14_)), [])), (1, (.v (.sl (List.map GClause.c f15_)), [])), (5, (.v (.int .i64 b16_), [])), (14, (.v (.bool (decide (b16_ < (f14_.length : Int)))), []))], [], []⟩ _ (by kernel_rfl) (.cons (len_obl GClause.c f14_) .nil) ?_
        rcases oif h19 with ⟨h20, h19⟩ | ⟨h20, h19⟩
        · refine Wc.condT h20 (by kernel_rfl) ?_
          refine Wc.fix (st' := ⟨[(0, (.v (.sl (List.map GClause.c f14_)), [])), (1, (.v (.sl (List.map GClause.c f15_)), [])), (5, (.v (.int .i64 b16_), []))], [], []⟩) [] [0, 1, 5] [] [] (by kernel_rfl) ?_
          refine Wc.skip ?_
          refine Wc.seq ?_
          refine Wc.block ?_
          refine Wc.seq ?_
          obtain ⟨e17_, h21, h19⟩ := obind h19
          obtain ⟨e18_, h22, h19⟩ := obind h19
          obtain ⟨d19_, h23, h19⟩ := obind h19
          refine Wc.draw hmix [{}, {}, { v := some (.vptr [.int .i64 e17_.gHead.gKind, .str e17_.gHead.gName, .int .i64 e17_.gHead.gNum, .sl (List.map GTerm.c e17_.gHead.gKids), .int .i64 e17_.gBody.gKind, .str e17_.gBody.gName, .int .i64 e17_.gBody.gNum, .sl (List.map GTerm.c e17_.gBody.gKids), .str e17_.gFile]) }, {}, {}, {}, { v := some (.vptr [.int .i64 e18_.gHead.gKind, .str e18_.gHead.gName, .int .i64 e18_.gHead.gNum, .sl (List.map GTerm.c e18_.gHead.gKids), .int .i64 e18_.gBody.gKind, .str e18_.gBody.gName, .int .i64 e18_.gBody.gNum, .sl (List.map GTerm.c e18_.gBody.gKids), .str e18_.gFile]) }, {}, { r := some (.v (.bool d19_) []) }] [] [0, 1, 5, 26] [] [] ⟨[(0, (.v (.sl (List.map GClause.c f14_)), [])), (1, (.v (.sl (List.map GClause.c f15_)), [])), (5, (.v (.int .i64 b16_), [])), (26, (.v (.bool (!d19_)), []))], [], []⟩ _ (by kernel_rfl) (fun X => by kernel_rfl) (.cons (at_obl (c := GClause.c) (GClause.c_eq e17_) GClause.c_len h21) (.cons (len_ok 9 [.int .i64 e17_.gHead.gKind, .str e17_.gHead.gName, .int .i64 e17_.gHead.gNum, .sl (List.map GTerm.c e17_.gHead.gKids), .int .i64 e17_.gBody.gKind, .str e17_.gBody.gName, .int .i64 e17_.gBody.gNum, .sl (List.map GTerm.c e17_.gBody.gKids), .str e17_.gFile]) (.cons (at_obl (c := GClause.c) (GClause.c_eq e18_) GClause.c_len h22) (.cons (len_ok 9 [.int .i64 e18_.gHead.gKind, .str e18_.gHead.gName, .int .i64 e18_.gHead.gNum, .sl (List.map GTerm.c e18_.gHead.gKids), .int .i64 e18_.gBody.gKind, .str e18_.gBody.gName, .int .i64 e18_.gBody.gNum, .sl (List.map GTerm.c e18_.gBody.gKids), .str e18_.gFile]) (.cons (claws_eqClause h23) .nil))))) ?_
          rcases oif h19 with ⟨h24, h19⟩ | ⟨h24, h19⟩
          · refine Wc.condT h24 (by kernel_rfl) ?_
            refine Wc.seq ?_
            refine Wc.region [] [] [4] [] [] ⟨[(4, (.v (.bool false), []))], [], []⟩ _ (by kernel_rfl) .nil ?_
            refine Wc.ret ?_
            obtain rfl := Option.some.inj h19
            obtain rfl := Option.some.inj h
            exact ⟨.inl rfl, by kernel_rfl, by kernel_rfl⟩
          · refine Wc.condF h24 (by kernel_rfl) ?_
            refine Wc.fix (st' := ⟨[(0, (.v (.sl (List.map GClause.c f14_)), [])), (1, (.v (.sl (List.map GClause.c f15_)), [])), (5, (.v (.int .i64 b16_), []))], [], []⟩) [] [0, 1, 5] [] [] (by kernel_rfl) ?_
            refine Wc.skip ?_
            refine Wc.region [] [] [0, 1, 5] [] [] ⟨[(0, (.v (.sl (List.map GClause.c f14_)), [])), (1, (.v (.sl (List.map GClause.c f15_)), [])), (5, (.v (.int .i64 (wr.i64 (b16_ + 1))), []))], [], []⟩ _ (by kernel_rfl) .nil ?_
            exact ⟨_, Nat.lt_succ_self _, _, rfl, h19⟩
        · refine Wc.condF h20 (by kernel_rfl) ?_
          refine Wc.fix (st' := ⟨[], [], []⟩) [] [] [] [] (by kernel_rfl) ?_
          refine Wc.exit ?_
          obtain rfl := Option.some.inj h19
          exact ⟨rfl, rfl⟩
    · rintro st ⟨rfl, rfl⟩
      refine Wc.seq ?_
      refine Wc.region [] [] [4] [] [] ⟨[(4, (.v (.bool true), []))], [], []⟩ _ (by kernel_rfl) .nil ?_
      refine Wc.ret ?_
      obtain rfl := Option.some.inj h
      exact ⟨.inl rfl, by kernel_rfl, by kernel_rfl⟩

def plaws_eqStringS_L1 (k : Nat) (g20_ : List ByteArray) (g21_ : List ByteArray) : Nat → Int → Option (Out Bool Unit)
  | 0, _ => none
  | m + 1, b22_ =>
    if (decide (b22_ < (g20_.length : Int))) = true then
      (at' g20_ b22_).bind fun i23_ =>
      (at' g21_ b22_).bind fun i24_ =>
      if (!(sEq i23_ i24_)) = true then
        some (.ret false)
      else
        plaws_eqStringS_L1 k g20_ g21_ m (wr.i64 (b22_ + 1))
    else
      some (.done ())
/-- laws.eqStringS -/
def plaws_eqStringS (k : Nat) (g20_ : List ByteArray) (g21_ : List ByteArray) : Option Bool :=
  if ((g20_.length : Int) != (g21_.length : Int)) = true then
    some false
  else
    (plaws_eqStringS_L1 k g20_ g21_ k 0).bind fun out1 => match out1 with
    | .ret r => some r
    | .done () =>
      some true
theorem claws_eqStringS {k : Nat} {g20_ : List ByteArray} {g21_ : List ByteArray} {r : Bool} (h : plaws_eqStringS k g20_ g21_ = some r) : FnO Try.prog 58 [.v (.sl (List.map cS g20_)) [], .v (.sl (List.map cS g21_)) []] (.v (.bool r) []) [] := by
  refine FnO.of Try.func58 (rfl : Try.f58.body = some _) (Nat.le_of_ble_eq_true (by kernel_rfl)) (Nat.le_of_ble_eq_true (by kernel_rfl)) ?_
  intro w0 X0 Fin pv0 pb
  unfold plaws_eqStringS at h
  refine Wc.seq ?_
  refine Wc.region [] [] [0, 1] [] [] ⟨[(0, (.v (.sl (List.map cS g20_)), [])), (1, (.v (.sl (List.map cS g21_)), []))], [], []⟩ _ (by kernel_rfl) .nil ?_
  refine Wc.seq ?_
  refine Wc.seq ?_
  refine Wc.region [{}, { v := some (.int .i64 (g20_.length : Int)) }, {}, { v := some (.int .i64 (g21_.length : Int)) }] [] [0, 1, 10] [] [] ⟨[(0, (.v (.sl (List.map cS g20_)), [])), (1, (.v (.sl (List.map cS g21_)), [])), (10, (.v (.bool ((g20_.length : Int) != (g21_.length : Int))), []))], [], []⟩ _ (by kernel_rfl) (.cons (len_obl cS g20_) (.cons (len_obl cS g21_) .nil)) ?_
  rcases oif h with ⟨h25, h⟩ | ⟨h25, h⟩
  · refine Wc.condT h25 (by kernel_rfl) ?_
    refine Wc.seq ?_
    refine Wc.region [] [] [4] [] [] ⟨[(4, (.v (.bool false), []))], [], []⟩ _ (by kernel_rfl) .nil ?_
    refine Wc.ret ?_
    obtain rfl := Option.some.inj h
    exact ⟨.inl rfl, by kernel_rfl, by kernel_rfl⟩
  · refine Wc.condF h25 (by kernel_rfl) ?_
    refine Wc.fix (st' := ⟨[(0, (.v (.sl (List.map cS g20_)), [])), (1, (.v (.sl (List.map cS g21_)), []))], [], []⟩) [] [0, 1] [] [] (by kernel_rfl) ?_
    refine Wc.skip ?_
    refine Wc.seq ?_
    refine Wc.seq ?_
    refine Wc.region [] [] [0, 1, 5] [] [] ⟨[(0, (.v (.sl (List.map cS g20_)), [])), (1, (.v (.sl (List.map cS g21_)), [])), (5, (.v (.int .i64 0), []))], [], []⟩ _ (by kernel_rfl) .nil ?_
    obtain ⟨out1, h26, h⟩ := obind h
    refine Wc.lastJ (fun st => out1 = .done () ∧ st = ⟨[], [], []⟩) ?_ ?_
    · refine Wc.block ?_
      refine Wc.loop (fun m st => ∃ (b22_ : Int), st = ⟨[(0, (.v (.sl (List.map cS g20_)), [])), (1, (.v (.sl (List.map cS g21_)), [])), (5, (.v (.int .i64 b22_), []))], [], []⟩ ∧ plaws_eqStringS_L1 k g20_ g21_ m b22_ = some out1) ?_ k ⟨_, rfl, h26⟩
      rintro m st ⟨b22_, rfl, h26⟩
      cases m with
      | zero => exact (onone h26).elim
      | succ m =>
        refine Wc.seq ?_
        refine Wc.seq ?_
        refine Wc.region [{}, {}, { v := some (.int .i64 (g20_.length : Int)) }] [] [0, 1, 5, 14] [] [] ⟨[(0, (.v (.sl (List.map cS g20_)), [])), (1, (.v (.sl (List.map cS g21_)), [])), (5, (.v (.int .i64 b22_), [])), (14, (.v (.bool (decide (b22_ < (g20_.length : Int)))), []))], [], []⟩ _ (by kernel_rfl) (.cons (len_obl cS g20_) .nil) ?_
        rcases oif h26 with ⟨h27, h26⟩ | ⟨h27, h26⟩
        · refine Wc.condT h27 (by kernel_rfl) ?_
          refine Wc.fix (st' := ⟨[(0, (.v (.sl (List.map cS g20_)), [])), (1, (.v (.sl (List.map cS g21_)), [])), (5, (.v (.int .i64 b22_), []))], [], []⟩) [] [0, 1, 5] [] [] (by kernel_rfl) ?_
          refine Wc.skip ?_
          refine Wc.seq ?_
          refine Wc.block ?_
          refine Wc.seq ?_
          obtain ⟨i23_, h28, h26⟩ := obind h26
          obtain ⟨i24_, h29, h26⟩ := obind h26
          refine Wc.draw hmix [{}, {}, { v := some (.vptr [.str i23_]) }, {}, {}, {}, { v := some (.vptr [.str i24_]) }] [] [0, 1, 5, 25] [] [] ⟨[(0, (.v (.sl (List.map cS g20_)), [])), (1, (.v (.sl (List.map cS g21_)), [])), (5, (.v (.int .i64 b22_), [])), (25, (.v (.bool (!(sEq i23_ i24_))), []))], [], []⟩ _ (by kernel_rfl) (fun X => by kernel_rfl) (.cons (at_obl (c := cS) rfl cS_len h28) (.cons (len_ok 1 [.str i23_]) (.cons (at_obl (c := cS) rfl cS_len h29) (.cons (len_ok 1 [.str i24_]) .nil)))) ?_
          rcases oif h26 with ⟨h30, h26⟩ | ⟨h30, h26⟩
          · refine Wc.condT h30 (by kernel_rfl) ?_
            refine Wc.seq ?_
            refine Wc.region [] [] [4] [] [] ⟨[(4, (.v (.bool false), []))], [], []⟩ _ (by kernel_rfl) .nil ?_
            refine Wc.ret ?_
            obtain rfl := Option.some.inj h26
            obtain rfl := Option.some.inj h
            exact ⟨.inl rfl, by kernel_rfl, by kernel_rfl⟩
          · refine Wc.condF h30 (by kernel_rfl) ?_
            refine Wc.fix (st' := ⟨[(0, (.v (.sl (List.map cS g20_)), [])), (1, (.v (.sl (List.map cS g21_)), [])), (5, (.v (.int .i64 b22_), []))], [], []⟩) [] [0, 1, 5] [] [] (by kernel_rfl) ?_
            refine Wc.skip ?_
            refine Wc.region [] [] [0, 1, 5] [] [] ⟨[(0, (.v (.sl (List.map cS g20_)), [])), (1, (.v (.sl (List.map cS g21_)), [])), (5, (.v (.int .i64 (wr.i64 (b22_ + 1))), []))], [], []⟩ _ (by kernel_rfl) .nil ?_
            exact ⟨_, Nat.lt_succ_self _, _, rfl, h26⟩
        · refine Wc.condF h27 (by kernel_rfl) ?_
          refine Wc.fix (st' := ⟨[], [], []⟩) [] [] [] [] (by kernel_rfl) ?_
          refine Wc.exit ?_
          obtain rfl := Option.some.inj h26
          exact ⟨rfl, rfl⟩
    · rintro st ⟨rfl, rfl⟩
      refine Wc.seq ?_
      refine Wc.region [] [] [4] [] [] ⟨[(4, (.v (.bool true), []))], [], []⟩ _ (by kernel_rfl) .nil ?_
      refine Wc.ret ?_
      obtain rfl := Option.some.inj h
      exact ⟨.inl rfl, by kernel_rfl, by kernel_rfl⟩

/-- laws.eqDb -/
def plaws_eqDb (k : Nat) (j25_ : GDb) (j26_ : GDb) : Option Bool :=
  (plaws_eqClauseS k j25_.gClauses j26_.gClauses).bind fun d27_ =>
  if (!d27_) = true then
    some false
  else
    (plaws_eqStringS k j25_.gOpen j26_.gOpen).bind fun d28_ =>
    if (!d28_) = true then
      some false
    else
      some true
theorem claws_eqDb {k : Nat} {j25_ : GDb} {j26_ : GDb} {r : Bool} (h : plaws_eqDb k j25_ j26_ = some r) : FnO Try.prog 13 [.v (.agg [.sl (List.map GClause.c j25_.gClauses), .sl (List.map cS j25_.gOpen)]) [], .v (.agg [.sl (List.map GClause.c j26_.gClauses), .sl (List.map cS j26_.gOpen)]) []] (.v (.bool r) []) [] := by
  refine FnO.of Try.func13 (rfl : Try.f13.body = some _) (Nat.le_of_ble_eq_true (by kernel_rfl)) (Nat.le_of_ble_eq_true (by kernel_rfl)) ?_
  intro w0 X0 Fin pv0 pb
  unfold plaws_eqDb at h
  refine Wc.seq ?_
  refine Wc.region [] [] [2, 3] [2, 3] [] ⟨[(2, (.ptr 2 0, [])), (3, (.ptr 3 0, []))], [(2, .cells [.sl (List.map GClause.c j25_.gClauses), .sl (List.map cS j25_.gOpen)] []), (3, .cells [.sl (List.map GClause.c j26_.gClauses), .sl (List.map cS j26_.gOpen)] [])], []⟩ _ (by kernel_rfl) .nil ?_
  refine Wc.seq ?_
  refine Wc.seq ?_
  obtain ⟨d27_, h31, h⟩ := obind h
  refine Wc.region [{}, {}, {}, {}, { r := some (.v (.bool d27_) []) }] [] [2, 3, 10] [2, 3] [] ⟨[(2, (.ptr 2 0, [])), (3, (.ptr 3 0, [])), (10, (.v (.bool (!d27_)), []))], [(2, .cells [.sl (List.map GClause.c j25_.gClauses), .sl (List.map cS j25_.gOpen)] []), (3, .cells [.sl (List.map GClause.c j26_.gClauses), .sl (List.map cS j26_.gOpen)] [])], []⟩ _ (by kernel_rfl) (.cons (claws_eqClauseS h31) .nil) ?_
  rcases oif h with ⟨h32, h⟩ | ⟨h32, h⟩
  · refine Wc.condT h32 (by kernel_rfl) ?_
    refine Wc.seq ?_
    refine Wc.region [] [] [4] [] [] ⟨[(4, (.v (.bool false), []))], [], []⟩ _ (by kernel_rfl) .nil ?_
    refine Wc.ret ?_
    obtain rfl := Option.some.inj h
    exact ⟨.inl rfl, by kernel_rfl, by kernel_rfl⟩
  · refine Wc.condF h32 (by kernel_rfl) ?_
    refine Wc.fix (st' := ⟨[(2, (.ptr 2 0, [])), (3, (.ptr 3 0, []))], [(2, .cells [.sl (List.map GClause.c j25_.gClauses), .sl (List.map cS j25_.gOpen)] []), (3, .cells [.sl (List.map GClause.c j26_.gClauses), .sl (List.map cS j26_.gOpen)] [])], []⟩) [] [2, 3] [2, 3] [] (by kernel_rfl) ?_
    refine Wc.skip ?_
    refine Wc.seq ?_
    refine Wc.seq ?_
    obtain ⟨d28_, h33, h⟩ := obind h
    refine Wc.region [{}, {}, {}, {}, { r := some (.v (.bool d28_) []) }] [] [16] [] [] ⟨[(16, (.v (.bool (!d28_)), []))], [], []⟩ _ (by kernel_rfl) (.cons (claws_eqStringS h33) .nil) ?_
    rcases oif h with ⟨h34, h⟩ | ⟨h34, h⟩
    · refine Wc.condT h34 (by kernel_rfl) ?_
      refine Wc.seq ?_
      refine Wc.region [] [] [4] [] [] ⟨[(4, (.v (.bool false), []))], [], []⟩ _ (by kernel_rfl) .nil ?_
      refine Wc.ret ?_
      obtain rfl := Option.some.inj h
      exact ⟨.inl rfl, by kernel_rfl, by kernel_rfl⟩
    · refine Wc.condF h34 (by kernel_rfl) ?_
      refine Wc.fix (st' := ⟨[], [], []⟩) [] [] [] [] (by kernel_rfl) ?_
      refine Wc.skip ?_
      refine Wc.seq ?_
      refine Wc.region [] [] [4] [] [] ⟨[(4, (.v (.bool true), []))], [], []⟩ _ (by kernel_rfl) .nil ?_
      refine Wc.ret ?_
      obtain rfl := Option.some.inj h
      exact ⟨.inl rfl, by kernel_rfl, by kernel_rfl⟩

def plaws_markText_L1 (k : Nat) : Nat → Int → ByteArray → Option (Out ByteArray ByteArray)
  | 0, _, _ => none
  | m + 1, b30_, i31_ =>
    if (decide (b30_ > 0)) = true then
      if (10 : Int) ≠ 0 then
        if sumOk (strOfNums [wr.u8 (wr.i64 (48 + (Int.tmod b30_ 10)))]) i31_ then
          if (10 : Int) ≠ 0 then
            plaws_markText_L1 k m (wr.i64 (Int.tdiv b30_ 10)) ((strOfNums [wr.u8 (wr.i64 (48 + (Int.tmod b30_ 10)))]) ++ i31_)
          else none
        else none
      else none
    else
      some (.done i31_)
/-- laws.markText -/
def plaws_markText (k : Nat) (b29_ : Int) : Option ByteArray :=
  if (decide (b29_ ≤ 0)) = true then
    some (bs [109, 48])
  else
    (plaws_markText_L1 k k b29_ (bs [])).bind fun out1 => match out1 with
    | .ret r => some r
    | .done i32_ =>
      if sumOk (bs [109]) i32_ then
        some ((bs [109]) ++ i32_)
      else none
theorem claws_markText {k : Nat} {b29_ : Int} {r : ByteArray} (h : plaws_markText k b29_ = some r) : FnO Try.prog 108 [.v (.int .i64 b29_) []] (.v (.str r) []) [] := by
  refine FnO.of Try.func108 (rfl : Try.f108.body = some _) (Nat.le_of_ble_eq_true (by kernel_rfl)) (Nat.le_of_ble_eq_true (by kernel_rfl)) ?_
  intro w0 X0 Fin pv0 pb
  unfold plaws_markText at h
  refine Wc.seq ?_
  refine Wc.region [] [] [0] [] [] ⟨[(0, (.v (.int .i64 b29_), []))], [], []⟩ _ (by kernel_rfl) .nil ?_
  refine Wc.seq ?_
  refine Wc.seq ?_
  refine Wc.region [] [] [0, 5] [] [] ⟨[(0, (.v (.int .i64 b29_), [])), (5, (.v (.bool (decide (b29_ ≤ 0))), []))], [], []⟩ _ (by kernel_rfl) .nil ?_
  rcases oif h with ⟨h35, h⟩ | ⟨h35, h⟩
  · refine Wc.condT h35 (by kernel_rfl) ?_
    refine Wc.seq ?_
    refine Wc.region [] [] [2] [] [] ⟨[(2, (.v (.str (bs [109, 48])), []))], [], []⟩ _ (by kernel_rfl) .nil ?_
    refine Wc.ret ?_
    obtain rfl := Option.some.inj h
    exact ⟨.inl rfl, by kernel_rfl, by kernel_rfl⟩
  · refine Wc.condF h35 (by kernel_rfl) ?_
    refine Wc.fix (st' := ⟨[(0, (.v (.int .i64 b29_), []))], [], []⟩) [] [0] [] [] (by kernel_rfl) ?_
    refine Wc.skip ?_
    refine Wc.seq ?_
    refine Wc.region [] [] [0, 3] [] [] ⟨[(0, (.v (.int .i64 b29_), [])), (3, (.v (.str (bs [])), []))], [], []⟩ _ (by kernel_rfl) .nil ?_
    obtain ⟨out1, h36, h⟩ := obind h
    refine Wc.seqJ (fun st => ∃ (i32_ : ByteArray), out1 = .done i32_ ∧ st = ⟨[(3, (.v (.str i32_), []))], [], []⟩) ?_ ?_
    · refine Wc.block ?_
      refine Wc.loop (fun m st => ∃ (b30_ : Int) (i31_ : ByteArray), st = ⟨[(0, (.v (.int .i64 b30_), [])), (3, (.v (.str i31_), []))], [], []⟩ ∧ plaws_markText_L1 k m b30_ i31_ = some out1) ?_ k ⟨_, _, rfl, h36⟩
      rintro m st ⟨b30_, i31_, rfl, h36⟩
      cases m with
      | zero => exact (onone h36).elim
      | succ m =>
        refine Wc.seq ?_
        refine Wc.seq ?_
        refine Wc.region [] [] [0, 3, 7] [] [] ⟨[(0, (.v (.int .i64 b30_), [])), (3, (.v (.str i31_), [])), (7, (.v (.bool (decide (b30_ > 0))), []))], [], []⟩ _ (by kernel_rfl) .nil ?_
        rcases oif h36 with ⟨h37, h36⟩ | ⟨h37, h36⟩
        · refine Wc.condT h37 (by kernel_rfl) ?_
          refine Wc.fix (st' := ⟨[(0, (.v (.int .i64 b30_), [])), (3, (.v (.str i31_), []))], [], []⟩) [] [0, 3] [] [] (by kernel_rfl) ?_
          refine Wc.skip ?_
          refine Wc.block ?_
          refine Wc.seq ?_
          obtain ⟨h38, h36⟩ := oguard h36
          obtain ⟨h39, h36⟩ := oguard h36
          refine Wc.region [{}, {}, {}, {}, { c := some (List.map cI.u8 [wr.u8 (wr.i64 (48 + (Int.tmod b30_ 10)))]) }, { v := some (.str (strOfNums [wr.u8 (wr.i64 (48 + (Int.tmod b30_ 10)))])) }] [] [0, 3] [] [] ⟨[(0, (.v (.int .i64 b30_), [])), (3, (.v (.str ((strOfNums [wr.u8 (wr.i64 (48 + (Int.tmod b30_ 10)))]) ++ i31_)), []))], [], []⟩ _ (by kernel_rfl) (.cons h38 (.cons (cl_cons (c := cI.u8) (x := wr.u8 (wr.i64 (48 + (Int.tmod b30_ 10)))) rfl (cl_nil cI.u8)) (.cons (bytes_obl [wr.u8 (wr.i64 (48 + (Int.tmod b30_ 10)))]) (.cons h39 .nil)))) ?_
          obtain ⟨h40, h36⟩ := oguard h36
          refine Wc.region [] [] [0, 3] [] [] ⟨[(0, (.v (.int .i64 (wr.i64 (Int.tdiv b30_ 10))), [])), (3, (.v (.str ((strOfNums [wr.u8 (wr.i64 (48 + (Int.tmod b30_ 10)))]) ++ i31_)), []))], [], []⟩ _ (by kernel_rfl) (.cons h40 .nil) ?_
          exact ⟨_, Nat.lt_succ_self _, _, _, rfl, h36⟩
        · refine Wc.condF h37 (by kernel_rfl) ?_
          refine Wc.fix (st' := ⟨[(3, (.v (.str i31_), []))], [], []⟩) [] [3] [] [] (by kernel_rfl) ?_
          refine Wc.exit ?_
          obtain rfl := Option.some.inj h36
          exact ⟨_, rfl, rfl⟩
    · rintro st ⟨i32_, rfl, rfl⟩
      refine Wc.seq ?_
      obtain ⟨h41, h⟩ := oguard h
      refine Wc.region [] [] [2] [] [] ⟨[(2, (.v (.str ((bs [109]) ++ i32_)), []))], [], []⟩ _ (by kernel_rfl) (.cons h41 .nil) ?_
      refine Wc.ret ?_
      obtain rfl := Option.some.inj h
      exact ⟨.inl rfl, by kernel_rfl, by kernel_rfl⟩

def plaws_markTermS_L1 (k : Nat) (rlaws_markTermS : (List GTerm) → Int → Option ((List GTerm) × Int)) : Nat → Int → Int → (List GTerm) → Option (Out ((List GTerm) × Int) (Int × (List GTerm)))
  | 0, _, _, _ => none
  | m + 1, b35_, b36_, a37_ =>
    if (decide (b36_ < (a37_.length : Int))) = true then
      (at' a37_ b36_).bind fun c40_ =>
      (plaws_markText k (wr.i64 (b35_ + 1))).bind fun i41_ =>
      (at' (a37_.set ((b36_).toNat) (GTerm.mk b35_ c40_.gName c40_.gNum c40_.gKids)) b36_).bind fun c42_ =>
      (at' ((a37_.set ((b36_).toNat) (GTerm.mk b35_ c40_.gName c40_.gNum c40_.gKids)).set ((b36_).toNat) (GTerm.mk c42_.gKind i41_ c42_.gNum c42_.gKids)) b36_).bind fun c43_ =>
      (at' (((a37_.set ((b36_).toNat) (GTerm.mk b35_ c40_.gName c40_.gNum c40_.gKids)).set ((b36_).toNat) (GTerm.mk c42_.gKind i41_ c42_.gNum c42_.gKids)).set ((b36_).toNat) (GTerm.mk c43_.gKind c43_.gName (wr.i64 ((wr.i64 (b35_ + 1)) + 1)) c43_.gKids)) b36_).bind fun c44_ =>
      (rlaws_markTermS c44_.gKids (wr.i64 ((wr.i64 ((wr.i64 (b35_ + 1)) + 1)) + 1))).bind fun l45_ =>
      plaws_markTermS_L1 k rlaws_markTermS m l45_.2 (wr.i64 (b36_ + 1)) ((((a37_.set ((b36_).toNat) (GTerm.mk b35_ c40_.gName c40_.gNum c40_.gKids)).set ((b36_).toNat) (GTerm.mk c42_.gKind i41_ c42_.gNum c42_.gKids)).set ((b36_).toNat) (GTerm.mk c43_.gKind c43_.gName (wr.i64 ((wr.i64 (b35_ + 1)) + 1)) c43_.gKids)).set ((b36_).toNat) (GTerm.mk c44_.gKind c44_.gName c44_.gNum l45_.1))
    else
      some (.done (b35_, a37_))
mutual
/-- laws.markTermS -/
def plaws_markTermS : Nat → (List GTerm) → Int → Option ((List GTerm) × Int)
  | 0, _, _ => none
  | k + 1, a33_, b34_ =>
    (plaws_markTermS_L1 k (plaws_markTermS k) k b34_ 0 a33_).bind fun out1 => match out1 with
    | .ret r => some r
    | .done (b38_, a39_) =>
      some (a39_, b38_)
end
theorem all_plaws_markTermS : ∀ k : Nat, (∀ {a33_ : List GTerm} {b34_ : Int} {r : (List GTerm) × Int}, plaws_markTermS k a33_ b34_ = some r → FnO Try.prog 76 [.io (.slx) [(0, .ex 1000000007 true (List.map GTerm.c a33_))], .v (.int .i64 b34_) []] (.v (.int .i64 r.2) []) [(0, .v .undef [(0, .ex 1000000007 true (List.map GTerm.c r.1))])]) := by
  intro k
  induction k with
  | zero =>
    · intro a33_ b34_ r h
      exact (onone (by rw [plaws_markTermS] at h; exact h)).elim
  | succ k ih =>
    have ih_plaws_markTermS := @ih
    · intro a33_ b34_ r h
      rw [plaws_markTermS] at h
      refine FnO.of Try.func76 (rfl : Try.f76.body = some _) (Nat.le_of_ble_eq_true (by kernel_rfl)) (Nat.le_of_ble_eq_true (by kernel_rfl)) ?_
      intro w0 X0 Fin pv0 pb
      refine Wc.seq ?_
      refine Wc.region [] [] [0, 1] [] [0] ⟨[(0, (.v (.slx), [(0, .al (.a 0 0) [])])), (1, (.v (.int .i64 b34_), []))], [], [(0, [(0, .ex 1000000007 true (List.map GTerm.c a33_))])]⟩ _ (by kernel_rfl) .nil ?_
      refine Wc.seq ?_
      refine Wc.seq ?_
      refine Wc.region [] [] [0, 1, 5] [] [0] ⟨[(0, (.v (.slx), [(0, .al (.a 0 0) [])])), (1, (.v (.int .i64 b34_), [])), (5, (.v (.int .i64 0), []))], [], [(0, [(0, .ex 1000000007 true (List.map GTerm.c a33_))])]⟩ _ (by kernel_rfl) .nil ?_
      obtain ⟨out1, h42, h⟩ := obind h
      refine Wc.lastJ (fun st => ∃ (b38_ : Int) (a39_ : List GTerm), out1 = .done (b38_, a39_) ∧ st = ⟨[(1, (.v (.int .i64 b38_), []))], [], [(0, [(0, .ex 1000000007 true (List.map GTerm.c a39_))])]⟩) ?_ ?_
      · refine Wc.block ?_
        refine Wc.loop (fun m st => ∃ (b35_ : Int) (b36_ : Int) (a37_ : List GTerm), st = ⟨[(0, (.v (.slx), [(0, .al (.a 0 0) [])])), (1, (.v (.int .i64 b35_), [])), (5, (.v (.int .i64 b36_), []))], [], [(0, [(0, .ex 1000000007 true (List.map GTerm.c a37_))])]⟩ ∧ plaws_markTermS_L1 k (plaws_markTermS k) m b35_ b36_ a37_ = some out1) ?_ k ⟨_, _, _, rfl, h42⟩
        rintro m st ⟨b35_, b36_, a37_, rfl, h42⟩
        cases m with
        | zero => exact (onone h42).elim
        | succ m =>
          refine Wc.seq ?_
          refine Wc.seq ?_
          refine Wc.region [{}, {}, { v := some (.int .i64 (a37_.length : Int)) }] [] [0, 1, 5, 9] [] [0] ⟨[(0, (.v (.slx), [(0, .al (.a 0 0) [])])), (1, (.v (.int .i64 b35_), [])), (5, (.v (.int .i64 b36_), [])), (9, (.v (.bool (decide (b36_ < (a37_.length : Int)))), []))], [], [(0, [(0, .ex 1000000007 true (List.map GTerm.c a37_))])]⟩ _ (by kernel_rfl) (.cons (len_obl GTerm.c a37_) .nil) ?_
          rcases oif h42 with ⟨h43, h42⟩ | ⟨h43, h42⟩
          · refine Wc.condT h43 (by kernel_rfl) ?_
            refine Wc.fix (st' := ⟨[(0, (.v (.slx), [(0, .al (.a 0 0) [])])), (1, (.v (.int .i64 b35_), [])), (5, (.v (.int .i64 b36_), []))], [], [(0, [(0, .ex 1000000007 true (List.map GTerm.c a37_))])]⟩) [] [0, 1, 5] [] [0] (by kernel_rfl) ?_
            refine Wc.skip ?_
            refine Wc.seq ?_
            refine Wc.block ?_
            refine Wc.seq ?_
            obtain ⟨c40_, h44, h42⟩ := obind h42
            refine Wc.region [{}, {}, {}, {}, {}, { c := some (List.map GTerm.c (a37_.set ((b36_).toNat) (GTerm.mk b35_ c40_.gName c40_.gNum c40_.gKids))) }] [] [0, 1, 5] [] [0] ⟨[(0, (.v (.slx), [(0, .al (.a 0 0) [])])), (1, (.v (.int .i64 b35_), [])), (5, (.v (.int .i64 b36_), []))], [], [(0, [(0, .ex 1000000007 true (List.map GTerm.c (a37_.set ((b36_).toNat) (GTerm.mk b35_ c40_.gName c40_.gNum c40_.gKids))))])]⟩ _ (by kernel_rfl) (.cons (ix_obl (c := GTerm.c) GTerm.c_len h44) (.cons (mod_obl (off := 0) (new := [.int .i64 b35_]) (c := GTerm.c) (GTerm.c_eq c40_) (GTerm.c_eq (GTerm.mk b35_ c40_.gName c40_.gNum c40_.gKids)) (at'_spec h44).2 rfl) (.cons (st_obl (sz := 4) (off := 0) (s := 1) (c := GTerm.c) (GTerm.c_eq c40_) (at'_spec h44).2 rfl (Nat.le_of_ble_eq_true rfl)) .nil))) ?_
            refine Wc.seq ?_
            refine Wc.region [] [] [0, 1, 5] [] [0] ⟨[(0, (.v (.slx), [(0, .al (.a 0 0) [])])), (1, (.v (.int .i64 (wr.i64 (b35_ + 1))), [])), (5, (.v (.int .i64 b36_), []))], [], [(0, [(0, .ex 1000000007 true (List.map GTerm.c (a37_.set ((b36_).toNat) (GTerm.mk b35_ c40_.gName c40_.gNum c40_.gKids))))])]⟩ _ (by kernel_rfl) .nil ?_
            refine Wc.seq ?_
            obtain ⟨i41_, h45, h42⟩ := obind h42
            obtain ⟨c42_, h46, h42⟩ := obind h42
            refine Wc.region [{}, {}, {}, { r := some (.v (.str i41_) []) }, {}, {}, { c := some (List.map GTerm.c ((a37_.set ((b36_).toNat) (GTerm.mk b35_ c40_.gName c40_.gNum c40_.gKids)).set ((b36_).toNat) (GTerm.mk c42_.gKind i41_ c42_.gNum c42_.gKids))) }] [] [0, 1, 5] [] [0] ⟨[(0, (.v (.slx), [(0, .al (.a 0 0) [])])), (1, (.v (.int .i64 (wr.i64 (b35_ + 1))), [])), (5, (.v (.int .i64 b36_), []))], [], [(0, [(0, .ex 1000000007 true (List.map GTerm.c ((a37_.set ((b36_).toNat) (GTerm.mk b35_ c40_.gName c40_.gNum c40_.gKids)).set ((b36_).toNat) (GTerm.mk c42_.gKind i41_ c42_.gNum c42_.gKids))))])]⟩ _ (by kernel_rfl) (.cons (claws_markText h45) (.cons (ix_obl (c := GTerm.c) GTerm.c_len h46) (.cons (mod_obl (off := 1) (new := [.str i41_]) (c := GTerm.c) (GTerm.c_eq c42_) (GTerm.c_eq (GTerm.mk c42_.gKind i41_ c42_.gNum c42_.gKids)) (at'_spec h46).2 rfl) (.cons (st_obl (sz := 4) (off := 1) (s := 1) (c := GTerm.c) (GTerm.c_eq c42_) (at'_spec h46).2 rfl (Nat.le_of_ble_eq_true rfl)) .nil)))) ?_
            refine Wc.seq ?_
            refine Wc.region [] [] [0, 1, 5] [] [0] ⟨[(0, (.v (.slx), [(0, .al (.a 0 0) [])])), (1, (.v (.int .i64 (wr.i64 ((wr.i64 (b35_ + 1)) + 1))), [])), (5, (.v (.int .i64 b36_), []))], [], [(0, [(0, .ex 1000000007 true (List.map GTerm.c ((a37_.set ((b36_).toNat) (GTerm.mk b35_ c40_.gName c40_.gNum c40_.gKids)).set ((b36_).toNat) (GTerm.mk c42_.gKind i41_ c42_.gNum c42_.gKids))))])]⟩ _ (by kernel_rfl) .nil ?_
            refine Wc.seq ?_
            obtain ⟨c43_, h47, h42⟩ := obind h42
            refine Wc.region [{}, {}, {}, {}, {}, { c := some (List.map GTerm.c (((a37_.set ((b36_).toNat) (GTerm.mk b35_ c40_.gName c40_.gNum c40_.gKids)).set ((b36_).toNat) (GTerm.mk c42_.gKind i41_ c42_.gNum c42_.gKids)).set ((b36_).toNat) (GTerm.mk c43_.gKind c43_.gName (wr.i64 ((wr.i64 (b35_ + 1)) + 1)) c43_.gKids))) }] [] [0, 1, 5] [] [0] ⟨[(0, (.v (.slx), [(0, .al (.a 0 0) [])])), (1, (.v (.int .i64 (wr.i64 ((wr.i64 (b35_ + 1)) + 1))), [])), (5, (.v (.int .i64 b36_), []))], [], [(0, [(0, .ex 1000000007 true (List.map GTerm.c (((a37_.set ((b36_).toNat) (GTerm.mk b35_ c40_.gName c40_.gNum c40_.gKids)).set ((b36_).toNat) (GTerm.mk c42_.gKind i41_ c42_.gNum c42_.gKids)).set ((b36_).toNat) (GTerm.mk c43_.gKind c43_.gName (wr.i64 ((wr.i64 (b35_ + 1)) + 1)) c43_.gKids))))])]⟩ _ (by kernel_rfl) (.cons (ix_obl (c := GTerm.c) GTerm.c_len h47) (.cons (mod_obl (off := 2) (new := [.int .i64 (wr.i64 ((wr.i64 (b35_ + 1)) + 1))]) (c := GTerm.c) (GTerm.c_eq c43_) (GTerm.c_eq (GTerm.mk c43_.gKind c43_.gName (wr.i64 ((wr.i64 (b35_ + 1)) + 1)) c43_.gKids)) (at'_spec h47).2 rfl) (.cons (st_obl (sz := 4) (off := 2) (s := 1) (c := GTerm.c) (GTerm.c_eq c43_) (at'_spec h47).2 rfl (Nat.le_of_ble_eq_true rfl)) .nil))) ?_
            refine Wc.seq ?_
            refine Wc.region [] [] [0, 1, 5] [] [0] ⟨[(0, (.v (.slx), [(0, .al (.a 0 0) [])])), (1, (.v (.int .i64 (wr.i64 ((wr.i64 ((wr.i64 (b35_ + 1)) + 1)) + 1))), [])), (5, (.v (.int .i64 b36_), []))], [], [(0, [(0, .ex 1000000007 true (List.map GTerm.c (((a37_.set ((b36_).toNat) (GTerm.mk b35_ c40_.gName c40_.gNum c40_.gKids)).set ((b36_).toNat) (GTerm.mk c42_.gKind i41_ c42_.gNum c42_.gKids)).set ((b36_).toNat) (GTerm.mk c43_.gKind c43_.gName (wr.i64 ((wr.i64 (b35_ + 1)) + 1)) c43_.gKids))))])]⟩ _ (by kernel_rfl) .nil ?_
            obtain ⟨c44_, h48, h42⟩ := obind h42
            obtain ⟨l45_, h49, h42⟩ := obind h42
            refine Wc.region [{}, {}, {}, {}, { v := some (.slx) }, {}, { c := some (List.map GTerm.c ((((a37_.set ((b36_).toNat) (GTerm.mk b35_ c40_.gName c40_.gNum c40_.gKids)).set ((b36_).toNat) (GTerm.mk c42_.gKind i41_ c42_.gNum c42_.gKids)).set ((b36_).toNat) (GTerm.mk c43_.gKind c43_.gName (wr.i64 ((wr.i64 (b35_ + 1)) + 1)) c43_.gKids)).set ((b36_).toNat) (GTerm.mk c44_.gKind c44_.gName c44_.gNum l45_.1))), io := [0], r := some (.v (.int .i64 l45_.2) []), outs := [(0, .v .undef [(0, .ex 1000000007 true (List.map GTerm.c l45_.1))])], ioc := [(0, .ex 1000000007 true (List.map GTerm.c c44_.gKids))] }] [] [0, 1, 5] [] [0] ⟨[(0, (.v (.slx), [(0, .al (.a 0 0) [])])), (1, (.v (.int .i64 l45_.2), [])), (5, (.v (.int .i64 b36_), []))], [], [(0, [(0, .ex 1000000007 true (List.map GTerm.c ((((a37_.set ((b36_).toNat) (GTerm.mk b35_ c40_.gName c40_.gNum c40_.gKids)).set ((b36_).toNat) (GTerm.mk c42_.gKind i41_ c42_.gNum c42_.gKids)).set ((b36_).toNat) (GTerm.mk c43_.gKind c43_.gName (wr.i64 ((wr.i64 (b35_ + 1)) + 1)) c43_.gKids)).set ((b36_).toNat) (GTerm.mk c44_.gKind c44_.gName c44_.gNum l45_.1))))])]⟩ _ (by kernel_rfl) (.cons (ix_obl (c := GTerm.c) GTerm.c_len h48) (.cons (el_oblD (sz := 4) (off := 3) (s := 1) (ag := false) (v := .slx) (c := GTerm.c) (GTerm.c_eq c44_) (at'_spec h48).2 rfl (Nat.le_of_ble_eq_true rfl) rfl) (.cons (own_obl (own := [(0, .al (.a 0 0) [(((b36_).toNat), 4, 3)])]) (p := .a 0 0) (m := (b36_).toNat) (sz := 4) (off := 3) (js := [0]) rfl) (.cons (seg_obl (sz := 4) (off := 3) (n := [.sl (List.map GTerm.c c44_.gKids)]) (c := GTerm.c) (GTerm.c_eq c44_) (at'_spec h48).2 rfl (Nat.le_of_ble_eq_true rfl) rfl) (.cons (mod_obl (off := 3) (new := [.sl (List.map GTerm.c l45_.1)]) (c := GTerm.c) (GTerm.c_eq c44_) (GTerm.c_eq (GTerm.mk c44_.gKind c44_.gName c44_.gNum l45_.1)) (at'_spec h48).2 rfl) (.cons (FnO.any (args := [.io (.slx) [(0, .ex 1000000007 true (List.map GTerm.c c44_.gKids))], .v (.int .i64 (wr.i64 ((wr.i64 ((wr.i64 (b35_ + 1)) + 1)) + 1))) []]) (ih_plaws_markTermS h49)) .nil)))))) ?_
            refine Wc.region [] [] [0, 1, 5] [] [0] ⟨[(0, (.v (.slx), [(0, .al (.a 0 0) [])])), (1, (.v (.int .i64 l45_.2), [])), (5, (.v (.int .i64 (wr.i64 (b36_ + 1))), []))], [], [(0, [(0, .ex 1000000007 true (List.map GTerm.c ((((a37_.set ((b36_).toNat) (GTerm.mk b35_ c40_.gName c40_.gNum c40_.gKids)).set ((b36_).toNat) (GTerm.mk c42_.gKind i41_ c42_.gNum c42_.gKids)).set ((b36_).toNat) (GTerm.mk c43_.gKind c43_.gName (wr.i64 ((wr.i64 (b35_ + 1)) + 1)) c43_.gKids)).set ((b36_).toNat) (GTerm.mk c44_.gKind c44_.gName c44_.gNum l45_.1))))])]⟩ _ (by kernel_rfl) .nil ?_
            exact ⟨_, Nat.lt_succ_self _, _, _, _, rfl, h42⟩
          · refine Wc.condF h43 (by kernel_rfl) ?_
            refine Wc.fix (st' := ⟨[(1, (.v (.int .i64 b35_), []))], [], [(0, [(0, .ex 1000000007 true (List.map GTerm.c a37_))])]⟩) [] [1] [] [0] (by kernel_rfl) ?_
            refine Wc.exit ?_
            obtain rfl := Option.some.inj h42
            exact ⟨_, _, rfl, rfl⟩
      · rintro st ⟨b38_, a39_, rfl, rfl⟩
        refine Wc.seq ?_
        refine Wc.region [] [] [4] [] [0] ⟨[(4, (.v (.int .i64 b38_), []))], [], [(0, [(0, .ex 1000000007 true (List.map GTerm.c a39_))])]⟩ _ (by kernel_rfl) .nil ?_
        refine Wc.ret ?_
        obtain rfl := Option.some.inj h
        exact ⟨.inl rfl, by kernel_rfl, by kernel_rfl⟩
theorem claws_markTermS {k : Nat} {a33_ : List GTerm} {b34_ : Int} {r : (List GTerm) × Int} (h : plaws_markTermS k a33_ b34_ = some r) : FnO Try.prog 76 [.io (.slx) [(0, .ex 1000000007 true (List.map GTerm.c a33_))], .v (.int .i64 b34_) []] (.v (.int .i64 r.2) []) [(0, .v .undef [(0, .ex 1000000007 true (List.map GTerm.c r.1))])] := (all_plaws_markTermS k) h

def plaws_markClauseS_L1 (k : Nat) : Nat → Int → Int → (List GClause) → Option (Out ((List GClause) × Int) (Int × (List GClause)))
  | 0, _, _, _ => none
  | m + 1, b48_, b49_, f50_ =>
    if (decide (b49_ < (f50_.length : Int))) = true then
      (at' f50_ b49_).bind fun e53_ =>
      (plaws_markText k (wr.i64 (b48_ + 1))).bind fun i54_ =>
      (at' (f50_.set ((b49_).toNat) (GClause.mk (GTerm.mk b48_ e53_.gHead.gName e53_.gHead.gNum e53_.gHead.gKids) e53_.gBody e53_.gFile)) b49_).bind fun e55_ =>
      (at' ((f50_.set ((b49_).toNat) (GClause.mk (GTerm.mk b48_ e53_.gHead.gName e53_.gHead.gNum e53_.gHead.gKids) e53_.gBody e53_.gFile)).set ((b49_).toNat) (GClause.mk (GTerm.mk e55_.gHead.gKind i54_ e55_.gHead.gNum e55_.gHead.gKids) e55_.gBody e55_.gFile)) b49_).bind fun e56_ =>
      (at' (((f50_.set ((b49_).toNat) (GClause.mk (GTerm.mk b48_ e53_.gHead.gName e53_.gHead.gNum e53_.gHead.gKids) e53_.gBody e53_.gFile)).set ((b49_).toNat) (GClause.mk (GTerm.mk e55_.gHead.gKind i54_ e55_.gHead.gNum e55_.gHead.gKids) e55_.gBody e55_.gFile)).set ((b49_).toNat) (GClause.mk (GTerm.mk e56_.gHead.gKind e56_.gHead.gName (wr.i64 ((wr.i64 (b48_ + 1)) + 1)) e56_.gHead.gKids) e56_.gBody e56_.gFile)) b49_).bind fun e57_ =>
      (plaws_markTermS k e57_.gHead.gKids (wr.i64 ((wr.i64 ((wr.i64 (b48_ + 1)) + 1)) + 1))).bind fun l58_ =>
      (at' ((((f50_.set ((b49_).toNat) (GClause.mk (GTerm.mk b48_ e53_.gHead.gName e53_.gHead.gNum e53_.gHead.gKids) e53_.gBody e53_.gFile)).set ((b49_).toNat) (GClause.mk (GTerm.mk e55_.gHead.gKind i54_ e55_.gHead.gNum e55_.gHead.gKids) e55_.gBody e55_.gFile)).set ((b49_).toNat) (GClause.mk (GTerm.mk e56_.gHead.gKind e56_.gHead.gName (wr.i64 ((wr.i64 (b48_ + 1)) + 1)) e56_.gHead.gKids) e56_.gBody e56_.gFile)).set ((b49_).toNat) (GClause.mk (GTerm.mk e57_.gHead.gKind e57_.gHead.gName e57_.gHead.gNum l58_.1) e57_.gBody e57_.gFile)) b49_).bind fun e59_ =>
      (plaws_markText k (wr.i64 (l58_.2 + 1))).bind fun i60_ =>
      (at' (((((f50_.set ((b49_).toNat) (GClause.mk (GTerm.mk b48_ e53_.gHead.gName e53_.gHead.gNum e53_.gHead.gKids) e53_.gBody e53_.gFile)).set ((b49_).toNat) (GClause.mk (GTerm.mk e55_.gHead.gKind i54_ e55_.gHead.gNum e55_.gHead.gKids) e55_.gBody e55_.gFile)).set ((b49_).toNat) (GClause.mk (GTerm.mk e56_.gHead.gKind e56_.gHead.gName (wr.i64 ((wr.i64 (b48_ + 1)) + 1)) e56_.gHead.gKids) e56_.gBody e56_.gFile)).set ((b49_).toNat) (GClause.mk (GTerm.mk e57_.gHead.gKind e57_.gHead.gName e57_.gHead.gNum l58_.1) e57_.gBody e57_.gFile)).set ((b49_).toNat) (GClause.mk e59_.gHead (GTerm.mk l58_.2 e59_.gBody.gName e59_.gBody.gNum e59_.gBody.gKids) e59_.gFile)) b49_).bind fun e61_ =>
      (at' ((((((f50_.set ((b49_).toNat) (GClause.mk (GTerm.mk b48_ e53_.gHead.gName e53_.gHead.gNum e53_.gHead.gKids) e53_.gBody e53_.gFile)).set ((b49_).toNat) (GClause.mk (GTerm.mk e55_.gHead.gKind i54_ e55_.gHead.gNum e55_.gHead.gKids) e55_.gBody e55_.gFile)).set ((b49_).toNat) (GClause.mk (GTerm.mk e56_.gHead.gKind e56_.gHead.gName (wr.i64 ((wr.i64 (b48_ + 1)) + 1)) e56_.gHead.gKids) e56_.gBody e56_.gFile)).set ((b49_).toNat) (GClause.mk (GTerm.mk e57_.gHead.gKind e57_.gHead.gName e57_.gHead.gNum l58_.1) e57_.gBody e57_.gFile)).set ((b49_).toNat) (GClause.mk e59_.gHead (GTerm.mk l58_.2 e59_.gBody.gName e59_.gBody.gNum e59_.gBody.gKids) e59_.gFile)).set ((b49_).toNat) (GClause.mk e61_.gHead (GTerm.mk e61_.gBody.gKind i60_ e61_.gBody.gNum e61_.gBody.gKids) e61_.gFile)) b49_).bind fun e62_ =>
      (at' (((((((f50_.set ((b49_).toNat) (GClause.mk (GTerm.mk b48_ e53_.gHead.gName e53_.gHead.gNum e53_.gHead.gKids) e53_.gBody e53_.gFile)).set ((b49_).toNat) (GClause.mk (GTerm.mk e55_.gHead.gKind i54_ e55_.gHead.gNum e55_.gHead.gKids) e55_.gBody e55_.gFile)).set ((b49_).toNat) (GClause.mk (GTerm.mk e56_.gHead.gKind e56_.gHead.gName (wr.i64 ((wr.i64 (b48_ + 1)) + 1)) e56_.gHead.gKids) e56_.gBody e56_.gFile)).set ((b49_).toNat) (GClause.mk (GTerm.mk e57_.gHead.gKind e57_.gHead.gName e57_.gHead.gNum l58_.1) e57_.gBody e57_.gFile)).set ((b49_).toNat) (GClause.mk e59_.gHead (GTerm.mk l58_.2 e59_.gBody.gName e59_.gBody.gNum e59_.gBody.gKids) e59_.gFile)).set ((b49_).toNat) (GClause.mk e61_.gHead (GTerm.mk e61_.gBody.gKind i60_ e61_.gBody.gNum e61_.gBody.gKids) e61_.gFile)).set ((b49_).toNat) (GClause.mk e62_.gHead (GTerm.mk e62_.gBody.gKind e62_.gBody.gName (wr.i64 ((wr.i64 (l58_.2 + 1)) + 1)) e62_.gBody.gKids) e62_.gFile)) b49_).bind fun e63_ =>
      (plaws_markTermS k e63_.gBody.gKids (wr.i64 ((wr.i64 ((wr.i64 (l58_.2 + 1)) + 1)) + 1))).bind fun l64_ =>
      (plaws_markText k l64_.2).bind fun i65_ =>
      (at' ((((((((f50_.set ((b49_).toNat) (GClause.mk (GTerm.mk b48_ e53_.gHead.gName e53_.gHead.gNum e53_.gHead.gKids) e53_.gBody e53_.gFile)).set ((b49_).toNat) (GClause.mk (GTerm.mk e55_.gHead.gKind i54_ e55_.gHead.gNum e55_.gHead.gKids) e55_.gBody e55_.gFile)).set ((b49_).toNat) (GClause.mk (GTerm.mk e56_.gHead.gKind e56_.gHead.gName (wr.i64 ((wr.i64 (b48_ + 1)) + 1)) e56_.gHead.gKids) e56_.gBody e56_.gFile)).set ((b49_).toNat) (GClause.mk (GTerm.mk e57_.gHead.gKind e57_.gHead.gName e57_.gHead.gNum l58_.1) e57_.gBody e57_.gFile)).set ((b49_).toNat) (GClause.mk e59_.gHead (GTerm.mk l58_.2 e59_.gBody.gName e59_.gBody.gNum e59_.gBody.gKids) e59_.gFile)).set ((b49_).toNat) (GClause.mk e61_.gHead (GTerm.mk e61_.gBody.gKind i60_ e61_.gBody.gNum e61_.gBody.gKids) e61_.gFile)).set ((b49_).toNat) (GClause.mk e62_.gHead (GTerm.mk e62_.gBody.gKind e62_.gBody.gName (wr.i64 ((wr.i64 (l58_.2 + 1)) + 1)) e62_.gBody.gKids) e62_.gFile)).set ((b49_).toNat) (GClause.mk e63_.gHead (GTerm.mk e63_.gBody.gKind e63_.gBody.gName e63_.gBody.gNum l64_.1) e63_.gFile)) b49_).bind fun e66_ =>
      plaws_markClauseS_L1 k m (wr.i64 (l64_.2 + 1)) (wr.i64 (b49_ + 1)) (((((((((f50_.set ((b49_).toNat) (GClause.mk (GTerm.mk b48_ e53_.gHead.gName e53_.gHead.gNum e53_.gHead.gKids) e53_.gBody e53_.gFile)).set ((b49_).toNat) (GClause.mk (GTerm.mk e55_.gHead.gKind i54_ e55_.gHead.gNum e55_.gHead.gKids) e55_.gBody e55_.gFile)).set ((b49_).toNat) (GClause.mk (GTerm.mk e56_.gHead.gKind e56_.gHead.gName (wr.i64 ((wr.i64 (b48_ + 1)) + 1)) e56_.gHead.gKids) e56_.gBody e56_.gFile)).set ((b49_).toNat) (GClause.mk (GTerm.mk e57_.gHead.gKind e57_.gHead.gName e57_.gHead.gNum l58_.1) e57_.gBody e57_.gFile)).set ((b49_).toNat) (GClause.mk e59_.gHead (GTerm.mk l58_.2 e59_.gBody.gName e59_.gBody.gNum e59_.gBody.gKids) e59_.gFile)).set ((b49_).toNat) (GClause.mk e61_.gHead (GTerm.mk e61_.gBody.gKind i60_ e61_.gBody.gNum e61_.gBody.gKids) e61_.gFile)).set ((b49_).toNat) (GClause.mk e62_.gHead (GTerm.mk e62_.gBody.gKind e62_.gBody.gName (wr.i64 ((wr.i64 (l58_.2 + 1)) + 1)) e62_.gBody.gKids) e62_.gFile)).set ((b49_).toNat) (GClause.mk e63_.gHead (GTerm.mk e63_.gBody.gKind e63_.gBody.gName e63_.gBody.gNum l64_.1) e63_.gFile)).set ((b49_).toNat) (GClause.mk e66_.gHead e66_.gBody i65_))
    else
      some (.done (b48_, f50_))
/-- laws.markClauseS -/
def plaws_markClauseS (k : Nat) (f46_ : List GClause) (b47_ : Int) : Option ((List GClause) × Int) :=
  (plaws_markClauseS_L1 k k b47_ 0 f46_).bind fun out1 => match out1 with
  | .ret r => some r
  | .done (b51_, f52_) =>
    some (f52_, b51_)
theorem claws_markClauseS {k : Nat} {f46_ : List GClause} {b47_ : Int} {r : (List GClause) × Int} (h : plaws_markClauseS k f46_ b47_ = some r) : FnO Try.prog 59 [.io (.slx) [(0, .ex 1000000007 true (List.map GClause.c f46_))], .v (.int .i64 b47_) []] (.v (.int .i64 r.2) []) [(0, .v .undef [(0, .ex 1000000007 true (List.map GClause.c r.1))])] := by
  refine FnO.of Try.func59 (rfl : Try.f59.body = some _) (Nat.le_of_ble_eq_true (by kernel_rfl)) (Nat.le_of_ble_eq_true (by kernel_rfl)) ?_
  intro w0 X0 Fin pv0 pb
  unfold plaws_markClauseS at h
  refine Wc.seq ?_
  refine Wc.region [] [] [0, 1] [] [0] ⟨[(0, (.v (.slx), [(0, .al (.a 0 0) [])])), (1, (.v (.int .i64 b47_), []))], [], [(0, [(0, .ex 1000000007 true (List.map GClause.c f46_))])]⟩ _ (by kernel_rfl) .nil ?_
  refine Wc.seq ?_
  refine Wc.seq ?_
  refine Wc.region [] [] [0, 1, 5] [] [0] ⟨[(0, (.v (.slx), [(0, .al (.a 0 0) [])])), (1, (.v (.int .i64 b47_), [])), (5, (.v (.int .i64 0), []))], [], [(0, [(0, .ex 1000000007 true (List.map GClause.c f46_))])]⟩ _ (by kernel_rfl) .nil ?_
  obtain ⟨out1, h50, h⟩ := obind h
  refine Wc.lastJ (fun st => ∃ (b51_ : Int) (f52_ : List GClause), out1 = .done (b51_, f52_) ∧ st = ⟨[(1, (.v (.int .i64 b51_), []))], [], [(0, [(0, .ex 1000000007 true (List.map GClause.c f52_))])]⟩) ?_ ?_
  · refine Wc.block ?_
    refine Wc.loop (fun m st => ∃ (b48_ : Int) (b49_ : Int) (f50_ : List GClause), st = ⟨[(0, (.v (.slx), [(0, .al (.a 0 0) [])])), (1, (.v (.int .i64 b48_), [])), (5, (.v (.int .i64 b49_), []))], [], [(0, [(0, .ex 1000000007 true (List.map GClause.c f50_))])]⟩ ∧ plaws_markClauseS_L1 k m b48_ b49_ f50_ = some out1) ?_ k ⟨_, _, _, rfl, h50⟩
    rintro m st ⟨b48_, b49_, f50_, rfl, h50⟩
    cases m with
    | zero => exact (onone h50).elim
    | succ m =>
      refine Wc.seq ?_
      refine Wc.seq ?_
      refine Wc.region [{}, {}, { v := some (.int .i64 (f50_.length : Int)) }] [] [0, 1, 5, 9] [] [0] ⟨[(0, (.v (.slx), [(0, .al (.a 0 0) [])])), (1, (.v (.int .i64 b48_), [])), (5, (.v (.int .i64 b49_), [])), (9, (.v (.bool (decide (b49_ < (f50_.length : Int)))), []))], [], [(0, [(0, .ex 1000000007 true (List.map GClause.c f50_))])]⟩ _ (by kernel_rfl) (.cons (len_obl GClause.c f50_) .nil) ?_
      rcases oif h50 with ⟨h51, h50⟩ | ⟨h51, h50⟩
      · refine Wc.condT h51 (by kernel_rfl) ?_
        refine Wc.fix (st' := ⟨[(0, (.v (.slx), [(0, .al (.a 0 0) [])])), (1, (.v (.int .i64 b48_), [])), (5, (.v (.int .i64 b49_), []))], [], [(0, [(0, .ex 1000000007 true (List.map GClause.c f50_))])]⟩) [] [0, 1, 5] [] [0] (by kernel_rfl) ?_
        refine Wc.skip ?_
        refine Wc.seq ?_
        refine Wc.block ?_
        refine Wc.seq ?_
        obtain ⟨e53_, h52, h50⟩ := obind h50
        refine Wc.region [{}, {}, {}, {}, {}, {}, { c := some (List.map GClause.c (f50_.set ((b49_).toNat) (GClause.mk (GTerm.mk b48_ e53_.gHead.gName e53_.gHead.gNum e53_.gHead.gKids) e53_.gBody e53_.gFile))) }] [] [0, 1, 5] [] [0] ⟨[(0, (.v (.slx), [(0, .al (.a 0 0) [])])), (1, (.v (.int .i64 b48_), [])), (5, (.v (.int .i64 b49_), []))], [], [(0, [(0, .ex 1000000007 true (List.map GClause.c (f50_.set ((b49_).toNat) (GClause.mk (GTerm.mk b48_ e53_.gHead.gName e53_.gHead.gNum e53_.gHead.gKids) e53_.gBody e53_.gFile))))])]⟩ _ (by kernel_rfl) (.cons (ix_obl (c := GClause.c) GClause.c_len h52) (.cons (mod_obl (off := 0) (new := [.int .i64 b48_]) (c := GClause.c) (GClause.c_eq e53_) (GClause.c_eq (GClause.mk (GTerm.mk b48_ e53_.gHead.gName e53_.gHead.gNum e53_.gHead.gKids) e53_.gBody e53_.gFile)) (at'_spec h52).2 rfl) (.cons (st_obl (sz := 9) (off := 0) (s := 1) (c := GClause.c) (GClause.c_eq e53_) (at'_spec h52).2 rfl (Nat.le_of_ble_eq_true rfl)) .nil))) ?_
        refine Wc.seq ?_
        refine Wc.region [] [] [0, 1, 5] [] [0] ⟨[(0, (.v (.slx), [(0, .al (.a 0 0) [])])), (1, (.v (.int .i64 (wr.i64 (b48_ + 1))), [])), (5, (.v (.int .i64 b49_), []))], [], [(0, [(0, .ex 1000000007 true (List.map GClause.c (f50_.set ((b49_).toNat) (GClause.mk (GTerm.mk b48_ e53_.gHead.gName e53_.gHead.gNum e53_.gHead.gKids) e53_.gBody e53_.gFile))))])]⟩ _ (by kernel_rfl) .nil ?_
        refine Wc.seq ?_
        obtain ⟨i54_, h53, h50⟩ := obind h50
        obtain ⟨e55_, h54, h50⟩ := obind h50
        refine Wc.region [{}, {}, {}, { r := some (.v (.str i54_) []) }, {}, {}, {}, { c := some (List.map GClause.c ((f50_.set ((b49_).toNat) (GClause.mk (GTerm.mk b48_ e53_.gHead.gName e53_.gHead.gNum e53_.gHead.gKids) e53_.gBody e53_.gFile)).set ((b49_).toNat) (GClause.mk (GTerm.mk e55_.gHead.gKind i54_ e55_.gHead.gNum e55_.gHead.gKids) e55_.gBody e55_.gFile))) }] [] [0, 1, 5] [] [0] ⟨[(0, (.v (.slx), [(0, .al (.a 0 0) [])])), (1, (.v (.int .i64 (wr.i64 (b48_ + 1))), [])), (5, (.v (.int .i64 b49_), []))], [], [(0, [(0, .ex 1000000007 true (List.map GClause.c ((f50_.set ((b49_).toNat) (GClause.mk (GTerm.mk b48_ e53_.gHead.gName e53_.gHead.gNum e53_.gHead.gKids) e53_.gBody e53_.gFile)).set ((b49_).toNat) (GClause.mk (GTerm.mk e55_.gHead.gKind i54_ e55_.gHead.gNum e55_.gHead.gKids) e55_.gBody e55_.gFile))))])]⟩ _ (by kernel_rfl) (.cons (claws_markText h53) (.cons (ix_obl (c := GClause.c) GClause.c_len h54) (.cons (mod_obl (off := 1) (new := [.str i54_]) (c := GClause.c) (GClause.c_eq e55_) (GClause.c_eq (GClause.mk (GTerm.mk e55_.gHead.gKind i54_ e55_.gHead.gNum e55_.gHead.gKids) e55_.gBody e55_.gFile)) (at'_spec h54).2 rfl) (.cons (st_obl (sz := 9) (off := 1) (s := 1) (c := GClause.c) (GClause.c_eq e55_) (at'_spec h54).2 rfl (Nat.le_of_ble_eq_true rfl)) .nil)))) ?_
        refine Wc.seq ?_
        refine Wc.region [] [] [0, 1, 5] [] [0] ⟨[(0, (.v (.slx), [(0, .al (.a 0 0) [])])), (1, (.v (.int .i64 (wr.i64 ((wr.i64 (b48_ + 1)) + 1))), [])), (5, (.v (.int .i64 b49_), []))], [], [(0, [(0, .ex 1000000007 true (List.map GClause.c ((f50_.set ((b49_).toNat) (GClause.mk (GTerm.mk b48_ e53_.gHead.gName e53_.gHead.gNum e53_.gHead.gKids) e53_.gBody e53_.gFile)).set ((b49_).toNat) (GClause.mk (GTerm.mk e55_.gHead.gKind i54_ e55_.gHead.gNum e55_.gHead.gKids) e55_.gBody e55_.gFile))))])]⟩ _ (by kernel_rfl) .nil ?_
        refine Wc.seq ?_
        obtain ⟨e56_, h55, h50⟩ := obind h50
        refine Wc.region [{}, {}, {}, {}, {}, {}, { c := some (List.map GClause.c (((f50_.set ((b49_).toNat) (GClause.mk (GTerm.mk b48_ e53_.gHead.gName e53_.gHead.gNum e53_.gHead.gKids) e53_.gBody e53_.gFile)).set ((b49_).toNat) (GClause.mk (GTerm.mk e55_.gHead.gKind i54_ e55_.gHead.gNum e55_.gHead.gKids) e55_.gBody e55_.gFile)).set ((b49_).toNat) (GClause.mk (GTerm.mk e56_.gHead.gKind e56_.gHead.gName (wr.i64 ((wr.i64 (b48_ + 1)) + 1)) e56_.gHead.gKids) e56_.gBody e56_.gFile))) }] [] [0, 1, 5] [] [0] ⟨[(0, (.v (.slx), [(0, .al (.a 0 0) [])])), (1, (.v (.int .i64 (wr.i64 ((wr.i64 (b48_ + 1)) + 1))), [])), (5, (.v (.int .i64 b49_), []))], [], [(0, [(0, .ex 1000000007 true (List.map GClause.c (((f50_.set ((b49_).toNat) (GClause.mk (GTerm.mk b48_ e53_.gHead.gName e53_.gHead.gNum e53_.gHead.gKids) e53_.gBody e53_.gFile)).set ((b49_).toNat) (GClause.mk (GTerm.mk e55_.gHead.gKind i54_ e55_.gHead.gNum e55_.gHead.gKids) e55_.gBody e55_.gFile)).set ((b49_).toNat) (GClause.mk (GTerm.mk e56_.gHead.gKind e56_.gHead.gName (wr.i64 ((wr.i64 (b48_ + 1)) + 1)) e56_.gHead.gKids) e56_.gBody e56_.gFile))))])]⟩ _ (by kernel_rfl) (.cons (ix_obl (c := GClause.c) GClause.c_len h55) (.cons (mod_obl (off := 2) (new := [.int .i64 (wr.i64 ((wr.i64 (b48_ + 1)) + 1))]) (c := GClause.c) (GClause.c_eq e56_) (GClause.c_eq (GClause.mk (GTerm.mk e56_.gHead.gKind e56_.gHead.gName (wr.i64 ((wr.i64 (b48_ + 1)) + 1)) e56_.gHead.gKids) e56_.gBody e56_.gFile)) (at'_spec h55).2 rfl) (.cons (st_obl (sz := 9) (off := 2) (s := 1) (c := GClause.c) (GClause.c_eq e56_) (at'_spec h55).2 rfl (Nat.le_of_ble_eq_true rfl)) .nil))) ?_
        refine Wc.seq ?_
        refine Wc.region [] [] [0, 1, 5] [] [0] ⟨[(0, (.v (.slx), [(0, .al (.a 0 0) [])])), (1, (.v (.int .i64 (wr.i64 ((wr.i64 ((wr.i64 (b48_ + 1)) + 1)) + 1))), [])), (5, (.v (.int .i64 b49_), []))], [], [(0, [(0, .ex 1000000007 true (List.map GClause.c (((f50_.set ((b49_).toNat) (GClause.mk (GTerm.mk b48_ e53_.gHead.gName e53_.gHead.gNum e53_.gHead.gKids) e53_.gBody e53_.gFile)).set ((b49_).toNat) (GClause.mk (GTerm.mk e55_.gHead.gKind i54_ e55_.gHead.gNum e55_.gHead.gKids) e55_.gBody e55_.gFile)).set ((b49_).toNat) (GClause.mk (GTerm.mk e56_.gHead.gKind e56_.gHead.gName (wr.i64 ((wr.i64 (b48_ + 1)) + 1)) e56_.gHead.gKids) e56_.gBody e56_.gFile))))])]⟩ _ (by kernel_rfl) .nil ?_
        refine Wc.seq ?_
        obtain ⟨e57_, h56, h50⟩ := obind h50
        obtain ⟨l58_, h57, h50⟩ := obind h50
        refine Wc.region [{}, {}, {}, {}, {}, { v := some (.slx) }, {}, { c := some (List.map GClause.c ((((f50_.set ((b49_).toNat) (GClause.mk (GTerm.mk b48_ e53_.gHead.gName e53_.gHead.gNum e53_.gHead.gKids) e53_.gBody e53_.gFile)).set ((b49_).toNat) (GClause.mk (GTerm.mk e55_.gHead.gKind i54_ e55_.gHead.gNum e55_.gHead.gKids) e55_.gBody e55_.gFile)).set ((b49_).toNat) (GClause.mk (GTerm.mk e56_.gHead.gKind e56_.gHead.gName (wr.i64 ((wr.i64 (b48_ + 1)) + 1)) e56_.gHead.gKids) e56_.gBody e56_.gFile)).set ((b49_).toNat) (GClause.mk (GTerm.mk e57_.gHead.gKind e57_.gHead.gName e57_.gHead.gNum l58_.1) e57_.gBody e57_.gFile))), io := [0], r := some (.v (.int .i64 l58_.2) []), outs := [(0, .v .undef [(0, .ex 1000000007 true (List.map GTerm.c l58_.1))])], ioc := [(0, .ex 1000000007 true (List.map GTerm.c e57_.gHead.gKids))] }] [] [0, 1, 5] [] [0] ⟨[(0, (.v (.slx), [(0, .al (.a 0 0) [])])), (1, (.v (.int .i64 l58_.2), [])), (5, (.v (.int .i64 b49_), []))], [], [(0, [(0, .ex 1000000007 true (List.map GClause.c ((((f50_.set ((b49_).toNat) (GClause.mk (GTerm.mk b48_ e53_.gHead.gName e53_.gHead.gNum e53_.gHead.gKids) e53_.gBody e53_.gFile)).set ((b49_).toNat) (GClause.mk (GTerm.mk e55_.gHead.gKind i54_ e55_.gHead.gNum e55_.gHead.gKids) e55_.gBody e55_.gFile)).set ((b49_).toNat) (GClause.mk (GTerm.mk e56_.gHead.gKind e56_.gHead.gName (wr.i64 ((wr.i64 (b48_ + 1)) + 1)) e56_.gHead.gKids) e56_.gBody e56_.gFile)).set ((b49_).toNat) (GClause.mk (GTerm.mk e57_.gHead.gKind e57_.gHead.gName e57_.gHead.gNum l58_.1) e57_.gBody e57_.gFile))))])]⟩ _ (by kernel_rfl) (.cons (ix_obl (c := GClause.c) GClause.c_len h56) (.cons (el_oblD (sz := 9) (off := 3) (s := 1) (ag := false) (v := .slx) (c := GClause.c) (GClause.c_eq e57_) (at'_spec h56).2 rfl (Nat.le_of_ble_eq_true rfl) rfl) (.cons (own_obl (own := [(0, .al (.a 0 0) [(((b49_).toNat), 9, 3)])]) (p := .a 0 0) (m := (b49_).toNat) (sz := 9) (off := 3) (js := [0]) rfl) (.cons (seg_obl (sz := 9) (off := 3) (n := [.sl (List.map GTerm.c e57_.gHead.gKids)]) (c := GClause.c) (GClause.c_eq e57_) (at'_spec h56).2 rfl (Nat.le_of_ble_eq_true rfl) rfl) (.cons (mod_obl (off := 3) (new := [.sl (List.map GTerm.c l58_.1)]) (c := GClause.c) (GClause.c_eq e57_) (GClause.c_eq (GClause.mk (GTerm.mk e57_.gHead.gKind e57_.gHead.gName e57_.gHead.gNum l58_.1) e57_.gBody e57_.gFile)) (at'_spec h56).2 rfl) (.cons (FnO.any (args := [.io (.slx) [(0, .ex 1000000007 true (List.map GTerm.c e57_.gHead.gKids))], .v (.int .i64 (wr.i64 ((wr.i64 ((wr.i64 (b48_ + 1)) + 1)) + 1))) []]) (claws_markTermS h57)) .nil)))))) ?_
        refine Wc.seq ?_
        obtain ⟨e59_, h58, h50⟩ := obind h50
        refine Wc.region [{}, {}, {}, {}, {}, {}, { c := some (List.map GClause.c (((((f50_.set ((b49_).toNat) (GClause.mk (GTerm.mk b48_ e53_.gHead.gName e53_.gHead.gNum e53_.gHead.gKids) e53_.gBody e53_.gFile)).set ((b49_).toNat) (GClause.mk (GTerm.mk e55_.gHead.gKind i54_ e55_.gHead.gNum e55_.gHead.gKids) e55_.gBody e55_.gFile)).set ((b49_).toNat) (GClause.mk (GTerm.mk e56_.gHead.gKind e56_.gHead.gName (wr.i64 ((wr.i64 (b48_ + 1)) + 1)) e56_.gHead.gKids) e56_.gBody e56_.gFile)).set ((b49_).toNat) (GClause.mk (GTerm.mk e57_.gHead.gKind e57_.gHead.gName e57_.gHead.gNum l58_.1) e57_.gBody e57_.gFile)).set ((b49_).toNat) (GClause.mk e59_.gHead (GTerm.mk l58_.2 e59_.gBody.gName e59_.gBody.gNum e59_.gBody.gKids) e59_.gFile))) }] [] [0, 1, 5] [] [0] ⟨[(0, (.v (.slx), [(0, .al (.a 0 0) [])])), (1, (.v (.int .i64 l58_.2), [])), (5, (.v (.int .i64 b49_), []))], [], [(0, [(0, .ex 1000000007 true (List.map GClause.c (((((f50_.set ((b49_).toNat) (GClause.mk (GTerm.mk b48_ e53_.gHead.gName e53_.gHead.gNum e53_.gHead.gKids) e53_.gBody e53_.gFile)).set ((b49_).toNat) (GClause.mk (GTerm.mk e55_.gHead.gKind i54_ e55_.gHead.gNum e55_.gHead.gKids) e55_.gBody e55_.gFile)).set ((b49_).toNat) (GClause.mk (GTerm.mk e56_.gHead.gKind e56_.gHead.gName (wr.i64 ((wr.i64 (b48_ + 1)) + 1)) e56_.gHead.gKids) e56_.gBody e56_.gFile)).set ((b49_).toNat) (GClause.mk (GTerm.mk e57_.gHead.gKind e57_.gHead.gName e57_.gHead.gNum l58_.1) e57_.gBody e57_.gFile)).set ((b49_).toNat) (GClause.mk e59_.gHead (GTerm.mk l58_.2 e59_.gBody.gName e59_.gBody.gNum e59_.gBody.gKids) e59_.gFile))))])]⟩ _ (by kernel_rfl) (.cons (ix_obl (c := GClause.c) GClause.c_len h58) (.cons (mod_obl (off := 4) (new := [.int .i64 l58_.2]) (c := GClause.c) (GClause.c_eq e59_) (GClause.c_eq (GClause.mk e59_.gHead (GTerm.mk l58_.2 e59_.gBody.gName e59_.gBody.gNum e59_.gBody.gKids) e59_.gFile)) (at'_spec h58).2 rfl) (.cons (st_obl (sz := 9) (off := 4) (s := 1) (c := GClause.c) (GClause.c_eq e59_) (at'_spec h58).2 rfl (Nat.le_of_ble_eq_true rfl)) .nil))) ?_
        refine Wc.seq ?_
        refine Wc.region [] [] [0, 1, 5] [] [0] ⟨[(0, (.v (.slx), [(0, .al (.a 0 0) [])])), (1, (.v (.int .i64 (wr.i64 (l58_.2 + 1))), [])), (5, (.v (.int .i64 b49_), []))], [], [(0, [(0, .ex 1000000007 true (List.map GClause.c (((((f50_.set ((b49_).toNat) (GClause.mk (GTerm.mk b48_ e53_.gHead.gName e53_.gHead.gNum e53_.gHead.gKids) e53_.gBody e53_.gFile)).set ((b49_).toNat) (GClause.mk (GTerm.mk e55_.gHead.gKind i54_ e55_.gHead.gNum e55_.gHead.gKids) e55_.gBody e55_.gFile)).set ((b49_).toNat) (GClause.mk (GTerm.mk e56_.gHead.gKind e56_.gHead.gName (wr.i64 ((wr.i64 (b48_ + 1)) + 1)) e56_.gHead.gKids) e56_.gBody e56_.gFile)).set ((b49_).toNat) (GClause.mk (GTerm.mk e57_.gHead.gKind e57_.gHead.gName e57_.gHead.gNum l58_.1) e57_.gBody e57_.gFile)).set ((b49_).toNat) (GClause.mk e59_.gHead (GTerm.mk l58_.2 e59_.gBody.gName e59_.gBody.gNum e59_.gBody.gKids) e59_.gFile))))])]⟩ _ (by kernel_rfl) .nil ?_
        refine Wc.seq ?_
        obtain ⟨i60_, h59, h50⟩ := obind h50
        obtain ⟨e61_, h60, h50⟩ := obind h50
        refine Wc.region [{}, {}, {}, { r := some (.v (.str i60_) []) }, {}, {}, {}, { c := some (List.map GClause.c ((((((f50_.set ((b49_).toNat) (GClause.mk (GTerm.mk b48_ e53_.gHead.gName e53_.gHead.gNum e53_.gHead.gKids) e53_.gBody e53_.gFile)).set ((b49_).toNat) (GClause.mk (GTerm.mk e55_.gHead.gKind i54_ e55_.gHead.gNum e55_.gHead.gKids) e55_.gBody e55_.gFile)).set ((b49_).toNat) (GClause.mk (GTerm.mk e56_.gHead.gKind e56_.gHead.gName (wr.i64 ((wr.i64 (b48_ + 1)) + 1)) e56_.gHead.gKids) e56_.gBody e56_.gFile)).set ((b49_).toNat) (GClause.mk (GTerm.mk e57_.gHead.gKind e57_.gHead.gName e57_.gHead.gNum l58_.1) e57_.gBody e57_.gFile)).set ((b49_).toNat) (GClause.mk e59_.gHead (GTerm.mk l58_.2 e59_.gBody.gName e59_.gBody.gNum e59_.gBody.gKids) e59_.gFile)).set ((b49_).toNat) (GClause.mk e61_.gHead (GTerm.mk e61_.gBody.gKind i60_ e61_.gBody.gNum e61_.gBody.gKids) e61_.gFile))) }] [] [0, 1, 5] [] [0] ⟨[(0, (.v (.slx), [(0, .al (.a 0 0) [])])), (1, (.v (.int .i64 (wr.i64 (l58_.2 + 1))), [])), (5, (.v (.int .i64 b49_), []))], [], [(0, [(0, .ex 1000000007 true (List.map GClause.c ((((((f50_.set ((b49_).toNat) (GClause.mk (GTerm.mk b48_ e53_.gHead.gName e53_.gHead.gNum e53_.gHead.gKids) e53_.gBody e53_.gFile)).set ((b49_).toNat) (GClause.mk (GTerm.mk e55_.gHead.gKind i54_ e55_.gHead.gNum e55_.gHead.gKids) e55_.gBody e55_.gFile)).set ((b49_).toNat) (GClause.mk (GTerm.mk e56_.gHead.gKind e56_.gHead.gName (wr.i64 ((wr.i64 (b48_ + 1)) + 1)) e56_.gHead.gKids) e56_.gBody e56_.gFile)).set ((b49_).toNat) (GClause.mk (GTerm.mk e57_.gHead.gKind e57_.gHead.gName e57_.gHead.gNum l58_.1) e57_.gBody e57_.gFile)).set ((b49_).toNat) (GClause.mk e59_.gHead (GTerm.mk l58_.2 e59_.gBody.gName e59_.gBody.gNum e59_.gBody.gKids) e59_.gFile)).set ((b49_).toNat) (GClause.mk e61_.gHead (GTerm.mk e61_.gBody.gKind i60_ e61_.gBody.gNum e61_.gBody.gKids) e61_.gFile))))])]⟩ _ (by kernel_rfl) (.cons (claws_markText h59) (.cons (ix_obl (c := GClause.c) GClause.c_len h60) (.cons (mod_obl (off := 5) (new := [.str i60_]) (c := GClause.c) (GClause.c_eq e61_) (GClause.c_eq (GClause.mk e61_.gHead (GTerm.mk e61_.gBody.gKind i60_ e61_.gBody.gNum e61_.gBody.gKids) e61_.gFile)) (at'_spec h60).2 rfl) (.cons (st_obl (sz := 9) (off := 5) (s := 1) (c := GClause.c) (GClause.c_eq e61_) (at'_spec h60).2 rfl (Nat.le_of_ble_eq_true rfl)) .nil)))) ?_
        refine Wc.seq ?_
        refine Wc.region [] [] [0, 1, 5] [] [0] ⟨[(0, (.v (.slx), [(0, .al (.a 0 0) [])])), (1, (.v (.int .i64 (wr.i64 ((wr.i64 (l58_.2 + 1)) + 1))), [])), (5, (.v (.int .i64 b49_), []))], [], [(0, [(0, .ex 1000000007 true (List.map GClause.c ((((((f50_.set ((b49_).toNat) (GClause.mk (GTerm.mk b48_ e53_.gHead.gName e53_.gHead.gNum e53_.gHead.gKids) e53_.gBody e53_.gFile)).set ((b49_).toNat) (GClause.mk (GTerm.mk e55_.gHead.gKind i54_ e55_.gHead.gNum e55_.gHead.gKids) e55_.gBody e55_.gFile)).set ((b49_).toNat) (GClause.mk (GTerm.mk e56_.gHead.gKind e56_.gHead.gName (wr.i64 ((wr.i64 (b48_ + 1)) + 1)) e56_.gHead.gKids) e56_.gBody e56_.gFile)).set ((b49_).toNat) (GClause.mk (GTerm.mk e57_.gHead.gKind e57_.gHead.gName e57_.gHead.gNum l58_.1) e57_.gBody e57_.gFile)).set ((b49_).toNat) (GClause.mk e59_.gHead (GTerm.mk l58_.2 e59_.gBody.gName e59_.gBody.gNum e59_.gBody.gKids) e59_.gFile)).set ((b49_).toNat) (GClause.mk e61_.gHead (GTerm.mk e61_.gBody.gKind i60_ e61_.gBody.gNum e61_.gBody.gKids) e61_.gFile))))])]⟩ _ (by kernel_rfl) .nil ?_
        refine Wc.seq ?_
        obtain ⟨e62_, h61, h50⟩ := obind h50
        refine Wc.region [{}, {}, {}, {}, {}, {}, { c := some (List.map GClause.c (((((((f50_.set ((b49_).toNat) (GClause.mk (GTerm.mk b48_ e53_.gHead.gName e53_.gHead.gNum e53_.gHead.gKids) e53_.gBody e53_.gFile)).set ((b49_).toNat) (GClause.mk (GTerm.mk e55_.gHead.gKind i54_ e55_.gHead.gNum e55_.gHead.gKids) e55_.gBody e55_.gFile)).set ((b49_).toNat) (GClause.mk (GTerm.mk e56_.gHead.gKind e56_.gHead.gName (wr.i64 ((wr.i64 (b48_ + 1)) + 1)) e56_.gHead.gKids) e56_.gBody e56_.gFile)).set ((b49_).toNat) (GClause.mk (GTerm.mk e57_.gHead.gKind e57_.gHead.gName e57_.gHead.gNum l58_.1) e57_.gBody e57_.gFile)).set ((b49_).toNat) (GClause.mk e59_.gHead (GTerm.mk l58_.2 e59_.gBody.gName e59_.gBody.gNum e59_.gBody.gKids) e59_.gFile)).set ((b49_).toNat) (GClause.mk e61_.gHead (GTerm.mk e61_.gBody.gKind i60_ e61_.gBody.gNum e61_.gBody.gKids) e61_.gFile)).set ((b49_).toNat) (GClause.mk e62_.gHead (GTerm.mk e62_.gBody.gKind e62_.gBody.gName (wr.i64 ((wr.i64 (l58_.2 + 1)) + 1)) e62_.gBody.gKids) e62_.gFile))) }] [] [0, 1, 5] [] [0] ⟨[(0, (.v (.slx), [(0, .al (.a 0 0) [])])), (1, (.v (.int .i64 (wr.i64 ((wr.i64 (l58_.2 + 1)) + 1))), [])), (5, (.v (.int .i64 b49_), []))], [], [(0, [(0, .ex 1000000007 true (List.map GClause.c (((((((f50_.set ((b49_).toNat) (GClause.mk (GTerm.mk b48_ e53_.gHead.gName e53_.gHead.gNum e53_.gHead.gKids) e53_.gBody e53_.gFile)).set ((b49_).toNat) (GClause.mk (GTerm.mk e55_.gHead.gKind i54_ e55_.gHead.gNum e55_.gHead.gKids) e55_.gBody e55_.gFile)).set ((b49_).toNat) (GClause.mk (GTerm.mk e56_.gHead.gKind e56_.gHead.gName (wr.i64 ((wr.i64 (b48_ + 1)) + 1)) e56_.gHead.gKids) e56_.gBody e56_.gFile)).set ((b49_).toNat) (GClause.mk (GTerm.mk e57_.gHead.gKind e57_.gHead.gName e57_.gHead.gNum l58_.1) e57_.gBody e57_.gFile)).set ((b49_).toNat) (GClause.mk e59_.gHead (GTerm.mk l58_.2 e59_.gBody.gName e59_.gBody.gNum e59_.gBody.gKids) e59_.gFile)).set ((b49_).toNat) (GClause.mk e61_.gHead (GTerm.mk e61_.gBody.gKind i60_ e61_.gBody.gNum e61_.gBody.gKids) e61_.gFile)).set ((b49_).toNat) (GClause.mk e62_.gHead (GTerm.mk e62_.gBody.gKind e62_.gBody.gName (wr.i64 ((wr.i64 (l58_.2 + 1)) + 1)) e62_.gBody.gKids) e62_.gFile))))])]⟩ _ (by kernel_rfl) (.cons (ix_obl (c := GClause.c) GClause.c_len h61) (.cons (mod_obl (off := 6) (new := [.int .i64 (wr.i64 ((wr.i64 (l58_.2 + 1)) + 1))]) (c := GClause.c) (GClause.c_eq e62_) (GClause.c_eq (GClause.mk e62_.gHead (GTerm.mk e62_.gBody.gKind e62_.gBody.gName (wr.i64 ((wr.i64 (l58_.2 + 1)) + 1)) e62_.gBody.gKids) e62_.gFile)) (at'_spec h61).2 rfl) (.cons (st_obl (sz := 9) (off := 6) (s := 1) (c := GClause.c) (GClause.c_eq e62_) (at'_spec h61).2 rfl (Nat.le_of_ble_eq_true rfl)) .nil))) ?_
        refine Wc.seq ?_
        refine Wc.region [] [] [0, 1, 5] [] [0] ⟨[(0, (.v (.slx), [(0, .al (.a 0 0) [])])), (1, (.v (.int .i64 (wr.i64 ((wr.i64 ((wr.i64 (l58_.2 + 1)) + 1)) + 1))), [])), (5, (.v (.int .i64 b49_), []))], [], [(0, [(0, .ex 1000000007 true (List.map GClause.c (((((((f50_.set ((b49_).toNat) (GClause.mk (GTerm.mk b48_ e53_.gHead.gName e53_.gHead.gNum e53_.gHead.gKids) e53_.gBody e53_.gFile)).set ((b49_).toNat) (GClause.mk (GTerm.mk e55_.gHead.gKind i54_ e55_.gHead.gNum e55_.gHead.gKids) e55_.gBody e55_.gFile)).set ((b49_).toNat) (GClause.mk (GTerm.mk e56_.gHead.gKind e56_.gHead.gName (wr.i64 ((wr.i64 (b48_ + 1)) + 1)) e56_.gHead.gKids) e56_.gBody e56_.gFile)).set ((b49_).toNat) (GClause.mk (GTerm.mk e57_.gHead.gKind e57_.gHead.gName e57_.gHead.gNum l58_.1) e57_.gBody e57_.gFile)).set ((b49_).toNat) (GClause.mk e59_.gHead (GTerm.mk l58_.2 e59_.gBody.gName e59_.gBody.gNum e59_.gBody.gKids) e59_.gFile)).set ((b49_).toNat) (GClause.mk e61_.gHead (GTerm.mk e61_.gBody.gKind i60_ e61_.gBody.gNum e61_.gBody.gKids) e61_.gFile)).set ((b49_).toNat) (GClause.mk e62_.gHead (GTerm.mk e62_.gBody.gKind e62_.gBody.gName (wr.i64 ((wr.i64 (l58_.2 + 1)) + 1)) e62_.gBody.gKids) e62_.gFile))))])]⟩ _ (by kernel_rfl) .nil ?_
        refine Wc.seq ?_
        obtain ⟨e63_, h62, h50⟩ := obind h50
        obtain ⟨l64_, h63, h50⟩ := obind h50
        refine Wc.region [{}, {}, {}, {}, {}, { v := some (.slx) }, {}, { c := some (List.map GClause.c ((((((((f50_.set ((b49_).toNat) (GClause.mk (GTerm.mk b48_ e53_.gHead.gName e53_.gHead.gNum e53_.gHead.gKids) e53_.gBody e53_.gFile)).set ((b49_).toNat) (GClause.mk (GTerm.mk e55_.gHead.gKind i54_ e55_.gHead.gNum e55_.gHead.gKids) e55_.gBody e55_.gFile)).set ((b49_).toNat) (GClause.mk (GTerm.mk e56_.gHead.gKind e56_.gHead.gName (wr.i64 ((wr.i64 (b48_ + 1)) + 1)) e56_.gHead.gKids) e56_.gBody e56_.gFile)).set ((b49_).toNat) (GClause.mk (GTerm.mk e57_.gHead.gKind e57_.gHead.gName e57_.gHead.gNum l58_.1) e57_.gBody e57_.gFile)).set ((b49_).toNat) (GClause.mk e59_.gHead (GTerm.mk l58_.2 e59_.gBody.gName e59_.gBody.gNum e59_.gBody.gKids) e59_.gFile)).set ((b49_).toNat) (GClause.mk e61_.gHead (GTerm.mk e61_.gBody.gKind i60_ e61_.gBody.gNum e61_.gBody.gKids) e61_.gFile)).set ((b49_).toNat) (GClause.mk e62_.gHead (GTerm.mk e62_.gBody.gKind e62_.gBody.gName (wr.i64 ((wr.i64 (l58_.2 + 1)) + 1)) e62_.gBody.gKids) e62_.gFile)).set ((b49_).toNat) (GClause.mk e63_.gHead (GTerm.mk e63_.gBody.gKind e63_.gBody.gName e63_.gBody.gNum l64_.1) e63_.gFile))), io := [0], r := some (.v (.int .i64 l64_.2) []), outs := [(0, .v .undef [(0, .ex 1000000007 true (List.map GTerm.c l64_.1))])], ioc := [(0, .ex 1000000007 true (List.map GTerm.c e63_.gBody.gKids))] }] [] [0, 1, 5] [] [0] ⟨[(0, (.v (.slx), [(0, .al (.a 0 0) [])])), (1, (.v (.int .i64 l64_.2), [])), (5, (.v (.int .i64 b49_), []))], [], [(0, [(0, .ex 1000000007 true (List.map GClause.c ((((((((f50_.set ((b49_).toNat) (GClause.mk (GTerm.mk b48_ e53_.gHead.gName e53_.gHead.gNum e53_.gHead.gKids) e53_.gBody e53_.gFile)).set ((b49_).toNat) (GClause.mk (GTerm.mk e55_.gHead.gKind i54_ e55_.gHead.gNum e55_.gHead.gKids) e55_.gBody e55_.gFile)).set ((b49_).toNat) (GClause.mk (GTerm.mk e56_.gHead.gKind e56_.gHead.gName (wr.i64 ((wr.i64 (b48_ + 1)) + 1)) e56_.gHead.gKids) e56_.gBody e56_.gFile)).set ((b49_).toNat) (GClause.mk (GTerm.mk e57_.gHead.gKind e57_.gHead.gName e57_.gHead.gNum l58_.1) e57_.gBody e57_.gFile)).set ((b49_).toNat) (GClause.mk e59_.gHead (GTerm.mk l58_.2 e59_.gBody.gName e59_.gBody.gNum e59_.gBody.gKids) e59_.gFile)).set ((b49_).toNat) (GClause.mk e61_.gHead (GTerm.mk e61_.gBody.gKind i60_ e61_.gBody.gNum e61_.gBody.gKids) e61_.gFile)).set ((b49_).toNat) (GClause.mk e62_.gHead (GTerm.mk e62_.gBody.gKind e62_.gBody.gName (wr.i64 ((wr.i64 (l58_.2 + 1)) + 1)) e62_.gBody.gKids) e62_.gFile)).set ((b49_).toNat) (GClause.mk e63_.gHead (GTerm.mk e63_.gBody.gKind e63_.gBody.gName e63_.gBody.gNum l64_.1) e63_.gFile))))])]⟩ _ (by kernel_rfl) (.cons (ix_obl (c := GClause.c) GClause.c_len h62) (.cons (el_oblD (sz := 9) (off := 7) (s := 1) (ag := false) (v := .slx) (c := GClause.c) (GClause.c_eq e63_) (at'_spec h62).2 rfl (Nat.le_of_ble_eq_true rfl) rfl) (.cons (own_obl (own := [(0, .al (.a 0 0) [(((b49_).toNat), 9, 7)])]) (p := .a 0 0) (m := (b49_).toNat) (sz := 9) (off := 7) (js := [0]) rfl) (.cons (seg_obl (sz := 9) (off := 7) (n := [.sl (List.map GTerm.c e63_.gBody.gKids)]) (c := GClause.c) (GClause.c_eq e63_) (at'_spec h62).2 rfl (Nat.le_of_ble_eq_true rfl) rfl) (.cons (mod_obl (off := 7) (new := [.sl (List.map GTerm.c l64_.1)]) (c := GClause.c) (GClause.c_eq e63_) (GClause.c_eq (GClause.mk e63_.gHead (GTerm.mk e63_.gBody.gKind e63_.gBody.gName e63_.gBody.gNum l64_.1) e63_.gFile)) (at'_spec h62).2 rfl) (.cons (FnO.any (args := [.io (.slx) [(0, .ex 1000000007 true (List.map GTerm.c e63_.gBody.gKids))], .v (.int .i64 (wr.i64 ((wr.i64 ((wr.i64 (l58_.2 + 1)) + 1)) + 1))) []]) (claws_markTermS h63)) .nil)))))) ?_
        refine Wc.seq ?_
        obtain ⟨i65_, h64, h50⟩ := obind h50
        obtain ⟨e66_, h65, h50⟩ := obind h50
        refine Wc.region [{}, {}, {}, { r := some (.v (.str i65_) []) }, {}, {}, { c := some (List.map GClause.c (((((((((f50_.set ((b49_).toNat) (GClause.mk (GTerm.mk b48_ e53_.gHead.gName e53_.gHead.gNum e53_.gHead.gKids) e53_.gBody e53_.gFile)).set ((b49_).toNat) (GClause.mk (GTerm.mk e55_.gHead.gKind i54_ e55_.gHead.gNum e55_.gHead.gKids) e55_.gBody e55_.gFile)).set ((b49_).toNat) (GClause.mk (GTerm.mk e56_.gHead.gKind e56_.gHead.gName (wr.i64 ((wr.i64 (b48_ + 1)) + 1)) e56_.gHead.gKids) e56_.gBody e56_.gFile)).set ((b49_).toNat) (GClause.mk (GTerm.mk e57_.gHead.gKind e57_.gHead.gName e57_.gHead.gNum l58_.1) e57_.gBody e57_.gFile)).set ((b49_).toNat) (GClause.mk e59_.gHead (GTerm.mk l58_.2 e59_.gBody.gName e59_.gBody.gNum e59_.gBody.gKids) e59_.gFile)).set ((b49_).toNat) (GClause.mk e61_.gHead (GTerm.mk e61_.gBody.gKind i60_ e61_.gBody.gNum e61_.gBody.gKids) e61_.gFile)).set ((b49_).toNat) (GClause.mk e62_.gHead (GTerm.mk e62_.gBody.gKind e62_.gBody.gName (wr.i64 ((wr.i64 (l58_.2 + 1)) + 1)) e62_.gBody.gKids) e62_.gFile)).set ((b49_).toNat) (GClause.mk e63_.gHead (GTerm.mk e63_.gBody.gKind e63_.gBody.gName e63_.gBody.gNum l64_.1) e63_.gFile)).set ((b49_).toNat) (GClause.mk e66_.gHead e66_.gBody i65_))) }] [] [0, 1, 5] [] [0] ⟨[(0, (.v (.slx), [(0, .al (.a 0 0) [])])), (1, (.v (.int .i64 l64_.2), [])), (5, (.v (.int .i64 b49_), []))], [], [(0, [(0, .ex 1000000007 true (List.map GClause.c (((((((((f50_.set ((b49_).toNat) (GClause.mk (GTerm.mk b48_ e53_.gHead.gName e53_.gHead.gNum e53_.gHead.gKids) e53_.gBody e53_.gFile)).set ((b49_).toNat) (GClause.mk (GTerm.mk e55_.gHead.gKind i54_ e55_.gHead.gNum e55_.gHead.gKids) e55_.gBody e55_.gFile)).set ((b49_).toNat) (GClause.mk (GTerm.mk e56_.gHead.gKind e56_.gHead.gName (wr.i64 ((wr.i64 (b48_ + 1)) + 1)) e56_.gHead.gKids) e56_.gBody e56_.gFile)).set ((b49_).toNat) (GClause.mk (GTerm.mk e57_.gHead.gKind e57_.gHead.gName e57_.gHead.gNum l58_.1) e57_.gBody e57_.gFile)).set ((b49_).toNat) (GClause.mk e59_.gHead (GTerm.mk l58_.2 e59_.gBody.gName e59_.gBody.gNum e59_.gBody.gKids) e59_.gFile)).set ((b49_).toNat) (GClause.mk e61_.gHead (GTerm.mk e61_.gBody.gKind i60_ e61_.gBody.gNum e61_.gBody.gKids) e61_.gFile)).set ((b49_).toNat) (GClause.mk e62_.gHead (GTerm.mk e62_.gBody.gKind e62_.gBody.gName (wr.i64 ((wr.i64 (l58_.2 + 1)) + 1)) e62_.gBody.gKids) e62_.gFile)).set ((b49_).toNat) (GClause.mk e63_.gHead (GTerm.mk e63_.gBody.gKind e63_.gBody.gName e63_.gBody.gNum l64_.1) e63_.gFile)).set ((b49_).toNat) (GClause.mk e66_.gHead e66_.gBody i65_))))])]⟩ _ (by kernel_rfl) (.cons (claws_markText h64) (.cons (ix_obl (c := GClause.c) GClause.c_len h65) (.cons (mod_obl (off := 8) (new := [.str i65_]) (c := GClause.c) (GClause.c_eq e66_) (GClause.c_eq (GClause.mk e66_.gHead e66_.gBody i65_)) (at'_spec h65).2 rfl) (.cons (st_obl (sz := 9) (off := 8) (s := 1) (c := GClause.c) (GClause.c_eq e66_) (at'_spec h65).2 rfl (Nat.le_of_ble_eq_true rfl)) .nil)))) ?_
        refine Wc.region [] [] [0, 1, 5] [] [0] ⟨[(0, (.v (.slx), [(0, .al (.a 0 0) [])])), (1, (.v (.int .i64 (wr.i64 (l64_.2 + 1))), [])), (5, (.v (.int .i64 b49_), []))], [], [(0, [(0, .ex 1000000007 true (List.map GClause.c (((((((((f50_.set ((b49_).toNat) (GClause.mk (GTerm.mk b48_ e53_.gHead.gName e53_.gHead.gNum e53_.gHead.gKids) e53_.gBody e53_.gFile)).set ((b49_).toNat) (GClause.mk (GTerm.mk e55_.gHead.gKind i54_ e55_.gHead.gNum e55_.gHead.gKids) e55_.gBody e55_.gFile)).set ((b49_).toNat) (GClause.mk (GTerm.mk e56_.gHead.gKind e56_.gHead.gName (wr.i64 ((wr.i64 (b48_ + 1)) + 1)) e56_.gHead.gKids) e56_.gBody e56_.gFile)).set ((b49_).toNat) (GClause.mk (GTerm.mk e57_.gHead.gKind e57_.gHead.gName e57_.gHead.gNum l58_.1) e57_.gBody e57_.gFile)).set ((b49_).toNat) (GClause.mk e59_.gHead (GTerm.mk l58_.2 e59_.gBody.gName e59_.gBody.gNum e59_.gBody.gKids) e59_.gFile)).set ((b49_).toNat) (GClause.mk e61_.gHead (GTerm.mk e61_.gBody.gKind i60_ e61_.gBody.gNum e61_.gBody.gKids) e61_.gFile)).set ((b49_).toNat) (GClause.mk e62_.gHead (GTerm.mk e62_.gBody.gKind e62_.gBody.gName (wr.i64 ((wr.i64 (l58_.2 + 1)) + 1)) e62_.gBody.gKids) e62_.gFile)).set ((b49_).toNat) (GClause.mk e63_.gHead (GTerm.mk e63_.gBody.gKind e63_.gBody.gName e63_.gBody.gNum l64_.1) e63_.gFile)).set ((b49_).toNat) (GClause.mk e66_.gHead e66_.gBody i65_))))])]⟩ _ (by kernel_rfl) .nil ?_
        refine Wc.region [] [] [0, 1, 5] [] [0] ⟨[(0, (.v (.slx), [(0, .al (.a 0 0) [])])), (1, (.v (.int .i64 (wr.i64 (l64_.2 + 1))), [])), (5, (.v (.int .i64 (wr.i64 (b49_ + 1))), []))], [], [(0, [(0, .ex 1000000007 true (List.map GClause.c (((((((((f50_.set ((b49_).toNat) (GClause.mk (GTerm.mk b48_ e53_.gHead.gName e53_.gHead.gNum e53_.gHead.gKids) e53_.gBody e53_.gFile)).set ((b49_).toNat) (GClause.mk (GTerm.mk e55_.gHead.gKind i54_ e55_.gHead.gNum e55_.gHead.gKids) e55_.gBody e55_.gFile)).set ((b49_).toNat) (GClause.mk (GTerm.mk e56_.gHead.gKind e56_.gHead.gName (wr.i64 ((wr.i64 (b48_ + 1)) + 1)) e56_.gHead.gKids) e56_.gBody e56_.gFile)).set ((b49_).toNat) (GClause.mk (GTerm.mk e57_.gHead.gKind e57_.gHead.gName e57_.gHead.gNum l58_.1) e57_.gBody e57_.gFile)).set ((b49_).toNat) (GClause.mk e59_.gHead (GTerm.mk l58_.2 e59_.gBody.gName e59_.gBody.gNum e59_.gBody.gKids) e59_.gFile)).set ((b49_).toNat) (GClause.mk e61_.gHead (GTerm.mk e61_.gBody.gKind i60_ e61_.gBody.gNum e61_.gBody.gKids) e61_.gFile)).set ((b49_).toNat) (GClause.mk e62_.gHead (GTerm.mk e62_.gBody.gKind e62_.gBody.gName (wr.i64 ((wr.i64 (l58_.2 + 1)) + 1)) e62_.gBody.gKids) e62_.gFile)).set ((b49_).toNat) (GClause.mk e63_.gHead (GTerm.mk e63_.gBody.gKind e63_.gBody.gName e63_.gBody.gNum l64_.1) e63_.gFile)).set ((b49_).toNat) (GClause.mk e66_.gHead e66_.gBody i65_))))])]⟩ _ (by kernel_rfl) .nil ?_
        exact ⟨_, Nat.lt_succ_self _, _, _, _, rfl, h50⟩
      · refine Wc.condF h51 (by kernel_rfl) ?_
        refine Wc.fix (st' := ⟨[(1, (.v (.int .i64 b48_), []))], [], [(0, [(0, .ex 1000000007 true (List.map GClause.c f50_))])]⟩) [] [1] [] [0] (by kernel_rfl) ?_
        refine Wc.exit ?_
        obtain rfl := Option.some.inj h50
        exact ⟨_, _, rfl, rfl⟩
  · rintro st ⟨b51_, f52_, rfl, rfl⟩
    refine Wc.seq ?_
    refine Wc.region [] [] [4] [] [0] ⟨[(4, (.v (.int .i64 b51_), []))], [], [(0, [(0, .ex 1000000007 true (List.map GClause.c f52_))])]⟩ _ (by kernel_rfl) .nil ?_
    refine Wc.ret ?_
    obtain rfl := Option.some.inj h
    exact ⟨.inl rfl, by kernel_rfl, by kernel_rfl⟩

def plaws_markStringS_L1 (k : Nat) : Nat → Int → Int → (List ByteArray) → Option (Out ((List ByteArray) × Int) (Int × (List ByteArray)))
  | 0, _, _, _ => none
  | m + 1, b69_, b70_, g71_ =>
    if (decide (b70_ < (g71_.length : Int))) = true then
      (plaws_markText k b69_).bind fun i74_ =>
      (at' g71_ b70_).bind fun i75_ =>
      plaws_markStringS_L1 k m (wr.i64 (b69_ + 1)) (wr.i64 (b70_ + 1)) (g71_.set ((b70_).toNat) i74_)
    else
      some (.done (b69_, g71_))
/-- laws.markStringS -/
def plaws_markStringS (k : Nat) (g67_ : List ByteArray) (b68_ : Int) : Option ((List ByteArray) × Int) :=
  (plaws_markStringS_L1 k k b68_ 0 g67_).bind fun out1 => match out1 with
  | .ret r => some r
  | .done (b72_, g73_) =>
    some (g73_, b72_)
theorem claws_markStringS {k : Nat} {g67_ : List ByteArray} {b68_ : Int} {r : (List ByteArray) × Int} (h : plaws_markStringS k g67_ b68_ = some r) : FnO Try.prog 60 [.io (.slx) [(0, .ex 1000000007 true (List.map cS g67_))], .v (.int .i64 b68_) []] (.v (.int .i64 r.2) []) [(0, .v .undef [(0, .ex 1000000007 true (List.map cS r.1))])] := by
  refine FnO.of Try.func60 (rfl : Try.f60.body = some _) (Nat.le_of_ble_eq_true (by kernel_rfl)) (Nat.le_of_ble_eq_true (by kernel_rfl)) ?_
  intro w0 X0 Fin pv0 pb
  unfold plaws_markStringS at h
  refine Wc.seq ?_
  refine Wc.region [] [] [0, 1] [] [0] ⟨[(0, (.v (.slx), [(0, .al (.a 0 0) [])])), (1, (.v (.int .i64 b68_), []))], [], [(0, [(0, .ex 1000000007 true (List.map cS g67_))])]⟩ _ (by kernel_rfl) .nil ?_
  refine Wc.seq ?_
  refine Wc.seq ?_
  refine Wc.region [] [] [0, 1, 5] [] [0] ⟨[(0, (.v (.slx), [(0, .al (.a 0 0) [])])), (1, (.v (.int .i64 b68_), [])), (5, (.v (.int .i64 0), []))], [], [(0, [(0, .ex 1000000007 true (List.map cS g67_))])]⟩ _ (by kernel_rfl) .nil ?_
  obtain ⟨out1, h66, h⟩ := obind h
  refine Wc.lastJ (fun st => ∃ (b72_ : Int) (g73_ : List ByteArray), out1 = .done (b72_, g73_) ∧ st = ⟨[(1, (.v (.int .i64 b72_), []))], [], [(0, [(0, .ex 1000000007 true (List.map cS g73_))])]⟩) ?_ ?_
  · refine Wc.block ?_
    refine Wc.loop (fun m st => ∃ (b69_ : Int) (b70_ : Int) (g71_ : List ByteArray), st = ⟨[(0, (.v (.slx), [(0, .al (.a 0 0) [])])), (1, (.v (.int .i64 b69_), [])), (5, (.v (.int .i64 b70_), []))], [], [(0, [(0, .ex 1000000007 true (List.map cS g71_))])]⟩ ∧ plaws_markStringS_L1 k m b69_ b70_ g71_ = some out1) ?_ k ⟨_, _, _, rfl, h66⟩
    rintro m st ⟨b69_, b70_, g71_, rfl, h66⟩
    cases m with
    | zero => exact (onone h66).elim
    | succ m =>
      refine Wc.seq ?_
      refine Wc.seq ?_
      refine Wc.region [{}, {}, { v := some (.int .i64 (g71_.length : Int)) }] [] [0, 1, 5, 9] [] [0] ⟨[(0, (.v (.slx), [(0, .al (.a 0 0) [])])), (1, (.v (.int .i64 b69_), [])), (5, (.v (.int .i64 b70_), [])), (9, (.v (.bool (decide (b70_ < (g71_.length : Int)))), []))], [], [(0, [(0, .ex 1000000007 true (List.map cS g71_))])]⟩ _ (by kernel_rfl) (.cons (len_obl cS g71_) .nil) ?_
      rcases oif h66 with ⟨h67, h66⟩ | ⟨h67, h66⟩
      · refine Wc.condT h67 (by kernel_rfl) ?_
        refine Wc.fix (st' := ⟨[(0, (.v (.slx), [(0, .al (.a 0 0) [])])), (1, (.v (.int .i64 b69_), [])), (5, (.v (.int .i64 b70_), []))], [], [(0, [(0, .ex 1000000007 true (List.map cS g71_))])]⟩) [] [0, 1, 5] [] [0] (by kernel_rfl) ?_
        refine Wc.skip ?_
        refine Wc.seq ?_
        refine Wc.block ?_
        refine Wc.seq ?_
        obtain ⟨i74_, h68, h66⟩ := obind h66
        obtain ⟨i75_, h69, h66⟩ := obind h66
        refine Wc.region [{}, {}, {}, { r := some (.v (.str i74_) []) }, {}, { c := some (List.map cS (g71_.set ((b70_).toNat) i74_)) }] [] [0, 1, 5] [] [0] ⟨[(0, (.v (.slx), [(0, .al (.a 0 0) [])])), (1, (.v (.int .i64 b69_), [])), (5, (.v (.int .i64 b70_), []))], [], [(0, [(0, .ex 1000000007 true (List.map cS (g71_.set ((b70_).toNat) i74_)))])]⟩ _ (by kernel_rfl) (.cons (claws_markText h68) (.cons (ix_obl (c := cS) cS_len h69) (.cons (mod_obl (off := 0) (new := [.str i74_]) (c := cS) rfl rfl (at'_spec h69).2 rfl) (.cons (st_obl (sz := 1) (off := 0) (s := 1) (c := cS) rfl (at'_spec h69).2 rfl (Nat.le_of_ble_eq_true rfl)) .nil)))) ?_
        refine Wc.region [] [] [0, 1, 5] [] [0] ⟨[(0, (.v (.slx), [(0, .al (.a 0 0) [])])), (1, (.v (.int .i64 (wr.i64 (b69_ + 1))), [])), (5, (.v (.int .i64 b70_), []))], [], [(0, [(0, .ex 1000000007 true (List.map cS (g71_.set ((b70_).toNat) i74_)))])]⟩ _ (by kernel_rfl) .nil ?_
        refine Wc.region [] [] [0, 1, 5] [] [0] ⟨[(0, (.v (.slx), [(0, .al (.a 0 0) [])])), (1, (.v (.int .i64 (wr.i64 (b69_ + 1))), [])), (5, (.v (.int .i64 (wr.i64 (b70_ + 1))), []))], [], [(0, [(0, .ex 1000000007 true (List.map cS (g71_.set ((b70_).toNat) i74_)))])]⟩ _ (by kernel_rfl) .nil ?_
        exact ⟨_, Nat.lt_succ_self _, _, _, _, rfl, h66⟩
      · refine Wc.condF h67 (by kernel_rfl) ?_
        refine Wc.fix (st' := ⟨[(1, (.v (.int .i64 b69_), []))], [], [(0, [(0, .ex 1000000007 true (List.map cS g71_))])]⟩) [] [1] [] [0] (by kernel_rfl) ?_
        refine Wc.exit ?_
        obtain rfl := Option.some.inj h66
        exact ⟨_, _, rfl, rfl⟩
  · rintro st ⟨b72_, g73_, rfl, rfl⟩
    refine Wc.seq ?_
    refine Wc.region [] [] [4] [] [0] ⟨[(4, (.v (.int .i64 b72_), []))], [], [(0, [(0, .ex 1000000007 true (List.map cS g73_))])]⟩ _ (by kernel_rfl) .nil ?_
    refine Wc.ret ?_
    obtain rfl := Option.some.inj h
    exact ⟨.inl rfl, by kernel_rfl, by kernel_rfl⟩

/-- laws.markDb -/
def plaws_markDb (k : Nat) (j76_ : GDb) (b77_ : Int) : Option (GDb × Int) :=
  (plaws_markClauseS k j76_.gClauses b77_).bind fun m78_ =>
  (plaws_markStringS k j76_.gOpen m78_.2).bind fun n79_ =>
  some (GDb.mk m78_.1 n79_.1, n79_.2)
theorem claws_markDb {k : Nat} {j76_ : GDb} {b77_ : Int} {r : GDb × Int} (h : plaws_markDb k j76_ b77_ = some r) : FnO Try.prog 14 [.io (.agg [.slx, .slx]) [(0, .ex 1000000007 true (List.map GClause.c j76_.gClauses)), (1, .ex 1000000007 true (List.map cS j76_.gOpen))], .v (.int .i64 b77_) []] (.v (.int .i64 r.2) []) [(0, .v .undef [(0, .ex 1000000007 true (List.map GClause.c r.1.gClauses)), (1, .ex 1000000007 true (List.map cS r.1.gOpen))])] := by
  refine FnO.of Try.func14 (rfl : Try.f14.body = some _) (Nat.le_of_ble_eq_true (by kernel_rfl)) (Nat.le_of_ble_eq_true (by kernel_rfl)) ?_
  intro w0 X0 Fin pv0 pb
  unfold plaws_markDb at h
  refine Wc.seq ?_
  refine Wc.region [] [] [1, 2] [2] [0] ⟨[(1, (.v (.int .i64 b77_), [])), (2, (.ptr 2 0, []))], [(2, .cells [.slx, .slx] [(0, .al (.a 0 0) []), (1, .al (.a 0 1) [])])], [(0, [(0, .ex 1000000007 true (List.map GClause.c j76_.gClauses)), (1, .ex 1000000007 true (List.map cS j76_.gOpen))])]⟩ _ (by kernel_rfl) .nil ?_
  refine Wc.seq ?_
  obtain ⟨m78_, h70, h⟩ := obind h
  refine Wc.region [{}, {}, {}, { io := [0], r := some (.v (.int .i64 m78_.2) []), outs := [(0, .v .undef [(0, .ex 1000000007 true (List.map GClause.c m78_.1))])] }] [] [1, 2] [2] [0] ⟨[(1, (.v (.int .i64 m78_.2), [])), (2, (.ptr 2 0, []))], [(2, .cells [.slx, .slx] [(0, .al (.a 0 0) []), (1, .al (.a 0 1) [])])], [(0, [(0, .ex 1000000007 true (List.map GClause.c m78_.1)), (1, .ex 1000000007 true (List.map cS j76_.gOpen))])]⟩ _ (by kernel_rfl) (.cons (FnO.any (args := [.io (.slx) [(0, .ex 1000000007 true (List.map GClause.c j76_.gClauses))], .v (.int .i64 b77_) []]) (claws_markClauseS h70)) .nil) ?_
  refine Wc.seq ?_
  obtain ⟨n79_, h71, h⟩ := obind h
  refine Wc.region [{}, {}, {}, { io := [0], r := some (.v (.int .i64 n79_.2) []), outs := [(0, .v .undef [(0, .ex 1000000007 true (List.map cS n79_.1))])] }] [] [1] [] [0] ⟨[(1, (.v (.int .i64 n79_.2), []))], [], [(0, [(0, .ex 1000000007 true (List.map GClause.c m78_.1)), (1, .ex 1000000007 true (List.map cS n79_.1))])]⟩ _ (by kernel_rfl) (.cons (FnO.any (args := [.io (.slx) [(0, .ex 1000000007 true (List.map cS j76_.gOpen))], .v (.int .i64 m78_.2) []]) (claws_markStringS h71)) .nil) ?_
  refine Wc.seq ?_
  refine Wc.region [] [] [4] [] [0] ⟨[(4, (.v (.int .i64 n79_.2), []))], [], [(0, [(0, .ex 1000000007 true (List.map GClause.c m78_.1)), (1, .ex 1000000007 true (List.map cS n79_.1))])]⟩ _ (by kernel_rfl) .nil ?_
  refine Wc.ret ?_
  obtain rfl := Option.some.inj h
  exact ⟨.inl rfl, by kernel_rfl, by kernel_rfl⟩

def plaws_heldTermS_L1 (k : Nat) (rlaws_heldTermS : (List GTerm) → Int → Option Int) (a80_ : List GTerm) : Nat → Int → Int → Option (Out Int Int)
  | 0, _, _ => none
  | m + 1, b82_, b83_ =>
    if (decide (b83_ < (a80_.length : Int))) = true then
      (at' a80_ b83_).bind fun c85_ =>
      if (c85_.gKind != b82_) = true then
        some (.ret (-1))
      else
        (at' a80_ b83_).bind fun c86_ =>
        (plaws_markText k (wr.i64 (b82_ + 1))).bind fun i87_ =>
        if (!(sEq c86_.gName i87_)) = true then
          some (.ret (-1))
        else
          (at' a80_ b83_).bind fun c88_ =>
          if (c88_.gNum != (wr.i64 ((wr.i64 (b82_ + 1)) + 1))) = true then
            some (.ret (-1))
          else
            (at' a80_ b83_).bind fun c89_ =>
            (rlaws_heldTermS c89_.gKids (wr.i64 ((wr.i64 ((wr.i64 (b82_ + 1)) + 1)) + 1))).bind fun b90_ =>
            if (decide (b90_ < 0)) = true then
              some (.ret (-1))
            else
              plaws_heldTermS_L1 k rlaws_heldTermS a80_ m b90_ (wr.i64 (b83_ + 1))
    else
      some (.done b82_)
mutual
/-- laws.heldTermS -/
def plaws_heldTermS : Nat → (List GTerm) → Int → Option Int
  | 0, _, _ => none
  | k + 1, a80_, b81_ =>
    (plaws_heldTermS_L1 k (plaws_heldTermS k) a80_ k b81_ 0).bind fun out1 => match out1 with
    | .ret r => some r
    | .done b84_ =>
      some b84_
end
theorem all_plaws_heldTermS : ∀ k : Nat, (∀ {a80_ : List GTerm} {b81_ : Int} {r : Int}, plaws_heldTermS k a80_ b81_ = some r → FnO Try.prog 77 [.v (.sl (List.map GTerm.c a80_)) [], .v (.int .i64 b81_) []] (.v (.int .i64 r) []) []) := by
  intro k
  induction k with
  | zero =>
    · intro a80_ b81_ r h
      exact (onone (by rw [plaws_heldTermS] at h; exact h)).elim
  | succ k ih =>
    have ih_plaws_heldTermS := @ih
    · intro a80_ b81_ r h
      rw [plaws_heldTermS] at h
      refine FnO.of Try.func77 (rfl : Try.f77.body = some _) (Nat.le_of_ble_eq_true (by kernel_rfl)) (Nat.le_of_ble_eq_true (by kernel_rfl)) ?_
      intro w0 X0 Fin pv0 pb
      refine Wc.seq ?_
      refine Wc.region [] [] [0, 1] [] [] ⟨[(0, (.v (.sl (List.map GTerm.c a80_)), [])), (1, (.v (.int .i64 b81_), []))], [], []⟩ _ (by kernel_rfl) .nil ?_
      refine Wc.seq ?_
      refine Wc.seq ?_
      refine Wc.region [] [] [0, 1, 5] [] [] ⟨[(0, (.v (.sl (List.map GTerm.c a80_)), [])), (1, (.v (.int .i64 b81_), [])), (5, (.v (.int .i64 0), []))], [], []⟩ _ (by kernel_rfl) .nil ?_
      obtain ⟨out1, h72, h⟩ := obind h
      refine Wc.lastJ (fun st => ∃ (b84_ : Int), out1 = .done b84_ ∧ st = ⟨[(1, (.v (.int .i64 b84_), []))], [], []⟩) ?_ ?_
      · refine Wc.block ?_
        refine Wc.loop (fun m st => ∃ (b82_ : Int) (b83_ : Int), st = ⟨[(0, (.v (.sl (List.map GTerm.c a80_)), [])), (1, (.v (.int .i64 b82_), [])), (5, (.v (.int .i64 b83_), []))], [], []⟩ ∧ plaws_heldTermS_L1 k (plaws_heldTermS k) a80_ m b82_ b83_ = some out1) ?_ k ⟨_, _, rfl, h72⟩
        rintro m st ⟨b82_, b83_, rfl, h72⟩
        cases m with
        | zero => exact (onone h72).elim
        | succ m =>
          refine Wc.seq ?_
          refine Wc.seq ?_
          refine Wc.region [{}, {}, { v := some (.int .i64 (a80_.length : Int)) }] [] [0, 1, 5, 9] [] [] ⟨[(0, (.v (.sl (List.map GTerm.c a80_)), [])), (1, (.v (.int .i64 b82_), [])), (5, (.v (.int .i64 b83_), [])), (9, (.v (.bool (decide (b83_ < (a80_.length : Int)))), []))], [], []⟩ _ (by kernel_rfl) (.cons (len_obl GTerm.c a80_) .nil) ?_
          rcases oif h72 with ⟨h73, h72⟩ | ⟨h73, h72⟩
          · refine Wc.condT h73 (by kernel_rfl) ?_
            refine Wc.fix (st' := ⟨[(0, (.v (.sl (List.map GTerm.c a80_)), [])), (1, (.v (.int .i64 b82_), [])), (5, (.v (.int .i64 b83_), []))], [], []⟩) [] [0, 1, 5] [] [] (by kernel_rfl) ?_
            refine Wc.skip ?_
            refine Wc.seq ?_
            refine Wc.block ?_
            refine Wc.seq ?_
            refine Wc.seq ?_
            obtain ⟨c85_, h74, h72⟩ := obind h72
            refine Wc.region [{}, {}, { v := some (.vptr [.int .i64 c85_.gKind, .str c85_.gName, .int .i64 c85_.gNum, .sl (List.map GTerm.c c85_.gKids)]) }] [] [0, 1, 5, 18] [] [] ⟨[(0, (.v (.sl (List.map GTerm.c a80_)), [])), (1, (.v (.int .i64 b82_), [])), (5, (.v (.int .i64 b83_), [])), (18, (.v (.bool (c85_.gKind != b82_)), []))], [], []⟩ _ (by kernel_rfl) (.cons (at_obl (c := GTerm.c) (GTerm.c_eq c85_) GTerm.c_len h74) (.cons (len_ok 1 [.int .i64 c85_.gKind, .str c85_.gName, .int .i64 c85_.gNum, .sl (List.map GTerm.c c85_.gKids)]) .nil)) ?_
            rcases oif h72 with ⟨h75, h72⟩ | ⟨h75, h72⟩
            · refine Wc.condT h75 (by kernel_rfl) ?_
              refine Wc.seq ?_
              refine Wc.region [] [] [4] [] [] ⟨[(4, (.v (.int .i64 (-1)), []))], [], []⟩ _ (by kernel_rfl) .nil ?_
              refine Wc.ret ?_
              obtain rfl := Option.some.inj h72
              obtain rfl := Option.some.inj h
              exact ⟨.inl rfl, by kernel_rfl, by kernel_rfl⟩
            · refine Wc.condF h75 (by kernel_rfl) ?_
              refine Wc.fix (st' := ⟨[(0, (.v (.sl (List.map GTerm.c a80_)), [])), (1, (.v (.int .i64 b82_), [])), (5, (.v (.int .i64 b83_), []))], [], []⟩) [] [0, 1, 5] [] [] (by kernel_rfl) ?_
              refine Wc.skip ?_
              refine Wc.seq ?_
              refine Wc.region [] [] [0, 1, 5] [] [] ⟨[(0, (.v (.sl (List.map GTerm.c a80_)), [])), (1, (.v (.int .i64 (wr.i64 (b82_ + 1))), [])), (5, (.v (.int .i64 b83_), []))], [], []⟩ _ (by kernel_rfl) .nil ?_
              refine Wc.seq ?_
              refine Wc.seq ?_
              obtain ⟨c86_, h76, h72⟩ := obind h72
              obtain ⟨i87_, h77, h72⟩ := obind h72
              refine Wc.draw hmix [{}, {}, { v := some (.vptr [.int .i64 c86_.gKind, .str c86_.gName, .int .i64 c86_.gNum, .sl (List.map GTerm.c c86_.gKids)]) }, {}, {}, {}, { r := some (.v (.str i87_) []) }] [] [0, 1, 5, 28] [] [] ⟨[(0, (.v (.sl (List.map GTerm.c a80_)), [])), (1, (.v (.int .i64 (wr.i64 (b82_ + 1))), [])), (5, (.v (.int .i64 b83_), [])), (28, (.v (.bool (!(sEq c86_.gName i87_))), []))], [], []⟩ _ (by kernel_rfl) (fun X => by kernel_rfl) (.cons (at_obl (c := GTerm.c) (GTerm.c_eq c86_) GTerm.c_len h76) (.cons (len_ok 1 [.str c86_.gName, .int .i64 c86_.gNum, .sl (List.map GTerm.c c86_.gKids)]) (.cons (claws_markText h77) .nil))) ?_
              rcases oif h72 with ⟨h78, h72⟩ | ⟨h78, h72⟩
              · refine Wc.condT h78 (by kernel_rfl) ?_
                refine Wc.seq ?_
                refine Wc.region [] [] [4] [] [] ⟨[(4, (.v (.int .i64 (-1)), []))], [], []⟩ _ (by kernel_rfl) .nil ?_
                refine Wc.ret ?_
                obtain rfl := Option.some.inj h72
                obtain rfl := Option.some.inj h
                exact ⟨.inl rfl, by kernel_rfl, by kernel_rfl⟩
              · refine Wc.condF h78 (by kernel_rfl) ?_
                refine Wc.fix (st' := ⟨[(0, (.v (.sl (List.map GTerm.c a80_)), [])), (1, (.v (.int .i64 (wr.i64 (b82_ + 1))), [])), (5, (.v (.int .i64 b83_), []))], [], []⟩) [] [0, 1, 5] [] [] (by kernel_rfl) ?_
                refine Wc.skip ?_
                refine Wc.seq ?_
                refine Wc.region [] [] [0, 1, 5] [] [] ⟨[(0, (.v (.sl (List.map GTerm.c a80_)), [])), (1, (.v (.int .i64 (wr.i64 ((wr.i64 (b82_ + 1)) + 1))), [])), (5, (.v (.int .i64 b83_), []))], [], []⟩ _ (by kernel_rfl) .nil ?_
                refine Wc.seq ?_
                refine Wc.seq ?_
                obtain ⟨c88_, h79, h72⟩ := obind h72
                refine Wc.region [{}, {}, { v := some (.vptr [.int .i64 c88_.gKind, .str c88_.gName, .int .i64 c88_.gNum, .sl (List.map GTerm.c c88_.gKids)]) }] [] [0, 1, 5, 37] [] [] ⟨[(0, (.v (.sl (List.map GTerm.c a80_)), [])), (1, (.v (.int .i64 (wr.i64 ((wr.i64 (b82_ + 1)) + 1))), [])), (5, (.v (.int .i64 b83_), [])), (37, (.v (.bool (c88_.gNum != (wr.i64 ((wr.i64 (b82_ + 1)) + 1)))), []))], [], []⟩ _ (by kernel_rfl) (.cons (at_obl (c := GTerm.c) (GTerm.c_eq c88_) GTerm.c_len h79) (.cons (len_ok 1 [.int .i64 c88_.gNum, .sl (List.map GTerm.c c88_.gKids)]) .nil)) ?_
                rcases oif h72 with ⟨h80, h72⟩ | ⟨h80, h72⟩
                · refine Wc.condT h80 (by kernel_rfl) ?_
                  refine Wc.seq ?_
                  refine Wc.region [] [] [4] [] [] ⟨[(4, (.v (.int .i64 (-1)), []))], [], []⟩ _ (by kernel_rfl) .nil ?_
                  refine Wc.ret ?_
                  obtain rfl := Option.some.inj h72
                  obtain rfl := Option.some.inj h
                  exact ⟨.inl rfl, by kernel_rfl, by kernel_rfl⟩
                · refine Wc.condF h80 (by kernel_rfl) ?_
                  refine Wc.fix (st' := ⟨[(0, (.v (.sl (List.map GTerm.c a80_)), [])), (1, (.v (.int .i64 (wr.i64 ((wr.i64 (b82_ + 1)) + 1))), [])), (5, (.v (.int .i64 b83_), []))], [], []⟩) [] [0, 1, 5] [] [] (by kernel_rfl) ?_
                  refine Wc.skip ?_
                  refine Wc.seq ?_
                  refine Wc.region [] [] [0, 1, 5] [] [] ⟨[(0, (.v (.sl (List.map GTerm.c a80_)), [])), (1, (.v (.int .i64 (wr.i64 ((wr.i64 ((wr.i64 (b82_ + 1)) + 1)) + 1))), [])), (5, (.v (.int .i64 b83_), []))], [], []⟩ _ (by kernel_rfl) .nil ?_
                  refine Wc.seq ?_
                  obtain ⟨c89_, h81, h72⟩ := obind h72
                  obtain ⟨b90_, h82, h72⟩ := obind h72
                  refine Wc.region [{}, {}, { v := some (.vptr [.int .i64 c89_.gKind, .str c89_.gName, .int .i64 c89_.gNum, .sl (List.map GTerm.c c89_.gKids)]) }, {}, {}, {}, { r := some (.v (.int .i64 b90_) []) }] [] [0, 1, 5] [] [] ⟨[(0, (.v (.sl (List.map GTerm.c a80_)), [])), (1, (.v (.int .i64 b90_), [])), (5, (.v (.int .i64 b83_), []))], [], []⟩ _ (by kernel_rfl) (.cons (at_obl (c := GTerm.c) (GTerm.c_eq c89_) GTerm.c_len h81) (.cons (len_ok 1 [.sl (List.map GTerm.c c89_.gKids)]) (.cons (ih_plaws_heldTermS h82) .nil))) ?_
                  refine Wc.seq ?_
                  refine Wc.region [] [] [0, 1, 5, 48] [] [] ⟨[(0, (.v (.sl (List.map GTerm.c a80_)), [])), (1, (.v (.int .i64 b90_), [])), (5, (.v (.int .i64 b83_), [])), (48, (.v (.bool (decide (b90_ < 0))), []))], [], []⟩ _ (by kernel_rfl) .nil ?_
                  rcases oif h72 with ⟨h83, h72⟩ | ⟨h83, h72⟩
                  · refine Wc.condT h83 (by kernel_rfl) ?_
                    refine Wc.seq ?_
                    refine Wc.region [] [] [4] [] [] ⟨[(4, (.v (.int .i64 (-1)), []))], [], []⟩ _ (by kernel_rfl) .nil ?_
                    refine Wc.ret ?_
                    obtain rfl := Option.some.inj h72
                    obtain rfl := Option.some.inj h
                    exact ⟨.inl rfl, by kernel_rfl, by kernel_rfl⟩
                  · refine Wc.condF h83 (by kernel_rfl) ?_
                    refine Wc.fix (st' := ⟨[(0, (.v (.sl (List.map GTerm.c a80_)), [])), (1, (.v (.int .i64 b90_), [])), (5, (.v (.int .i64 b83_), []))], [], []⟩) [] [0, 1, 5] [] [] (by kernel_rfl) ?_
                    refine Wc.skip ?_
                    refine Wc.region [] [] [0, 1, 5] [] [] ⟨[(0, (.v (.sl (List.map GTerm.c a80_)), [])), (1, (.v (.int .i64 b90_), [])), (5, (.v (.int .i64 (wr.i64 (b83_ + 1))), []))], [], []⟩ _ (by kernel_rfl) .nil ?_
                    exact ⟨_, Nat.lt_succ_self _, _, _, rfl, h72⟩
          · refine Wc.condF h73 (by kernel_rfl) ?_
            refine Wc.fix (st' := ⟨[(1, (.v (.int .i64 b82_), []))], [], []⟩) [] [1] [] [] (by kernel_rfl) ?_
            refine Wc.exit ?_
            obtain rfl := Option.some.inj h72
            exact ⟨_, rfl, rfl⟩
      · rintro st ⟨b84_, rfl, rfl⟩
        refine Wc.seq ?_
        refine Wc.region [] [] [4] [] [] ⟨[(4, (.v (.int .i64 b84_), []))], [], []⟩ _ (by kernel_rfl) .nil ?_
        refine Wc.ret ?_
        obtain rfl := Option.some.inj h
        exact ⟨.inl rfl, by kernel_rfl, by kernel_rfl⟩
theorem claws_heldTermS {k : Nat} {a80_ : List GTerm} {b81_ : Int} {r : Int} (h : plaws_heldTermS k a80_ b81_ = some r) : FnO Try.prog 77 [.v (.sl (List.map GTerm.c a80_)) [], .v (.int .i64 b81_) []] (.v (.int .i64 r) []) [] := (all_plaws_heldTermS k) h

def plaws_heldClauseS_L1 (k : Nat) (f91_ : List GClause) : Nat → Int → Int → Option (Out Int Int)
  | 0, _, _ => none
  | m + 1, b93_, b94_ =>
    if (decide (b94_ < (f91_.length : Int))) = true then
      (at' f91_ b94_).bind fun e96_ =>
      if (e96_.gHead.gKind != b93_) = true then
        some (.ret (-1))
      else
        (at' f91_ b94_).bind fun e97_ =>
        (plaws_markText k (wr.i64 (b93_ + 1))).bind fun i98_ =>
        if (!(sEq e97_.gHead.gName i98_)) = true then
          some (.ret (-1))
        else
          (at' f91_ b94_).bind fun e99_ =>
          if (e99_.gHead.gNum != (wr.i64 ((wr.i64 (b93_ + 1)) + 1))) = true then
            some (.ret (-1))
          else
            (at' f91_ b94_).bind fun e100_ =>
            (plaws_heldTermS k e100_.gHead.gKids (wr.i64 ((wr.i64 ((wr.i64 (b93_ + 1)) + 1)) + 1))).bind fun b101_ =>
            if (decide (b101_ < 0)) = true then
              some (.ret (-1))
            else
              (at' f91_ b94_).bind fun e102_ =>
              if (e102_.gBody.gKind != b101_) = true then
                some (.ret (-1))
              else
                (at' f91_ b94_).bind fun e103_ =>
                (plaws_markText k (wr.i64 (b101_ + 1))).bind fun i104_ =>
                if (!(sEq e103_.gBody.gName i104_)) = true then
                  some (.ret (-1))
                else
                  (at' f91_ b94_).bind fun e105_ =>
                  if (e105_.gBody.gNum != (wr.i64 ((wr.i64 (b101_ + 1)) + 1))) = true then
                    some (.ret (-1))
                  else
                    (at' f91_ b94_).bind fun e106_ =>
                    (plaws_heldTermS k e106_.gBody.gKids (wr.i64 ((wr.i64 ((wr.i64 (b101_ + 1)) + 1)) + 1))).bind fun b107_ =>
                    if (decide (b107_ < 0)) = true then
                      some (.ret (-1))
                    else
                      (at' f91_ b94_).bind fun e108_ =>
                      (plaws_markText k b107_).bind fun i109_ =>
                      if (!(sEq e108_.gFile i109_)) = true then
                        some (.ret (-1))
                      else
                        plaws_heldClauseS_L1 k f91_ m (wr.i64 (b107_ + 1)) (wr.i64 (b94_ + 1))
    else
      some (.done b93_)
/-- laws.heldClauseS -/
def plaws_heldClauseS (k : Nat) (f91_ : List GClause) (b92_ : Int) : Option Int :=
  (plaws_heldClauseS_L1 k f91_ k b92_ 0).bind fun out1 => match out1 with
  | .ret r => some r
  | .done b95_ =>
    some b95_
theorem claws_heldClauseS {k : Nat} {f91_ : List GClause} {b92_ : Int} {r : Int} (h : plaws_heldClauseS k f91_ b92_ = some r) : FnO Try.prog 61 [.v (.sl (List.map GClause.c f91_)) [], .v (.int .i64 b92_) []] (.v (.int .i64 r) []) [] := by
  refine FnO.of Try.func61 (rfl : Try.f61.body = some _) (Nat.le_of_ble_eq_true (by kernel_rfl)) (Nat.le_of_ble_eq_true (by kernel_rfl)) ?_
  intro w0 X0 Fin pv0 pb
  unfold plaws_heldClauseS at h
  refine Wc.seq ?_
  refine Wc.region [] [] [0, 1] [] [] ⟨[(0, (.v (.sl (List.map GClause.c f91_)), [])), (1, (.v (.int .i64 b92_), []))], [], []⟩ _ (by kernel_rfl) .nil ?_
  refine Wc.seq ?_
  refine Wc.seq ?_
  refine Wc.region [] [] [0, 1, 5] [] [] ⟨[(0, (.v (.sl (List.map GClause.c f91_)), [])), (1, (.v (.int .i64 b92_), [])), (5, (.v (.int .i64 0), []))], [], []⟩ _ (by kernel_rfl) .nil ?_
  obtain ⟨out1, h84, h⟩ := obind h
  refine Wc.lastJ (fun st => ∃ (b95_ : Int), out1 = .done b95_ ∧ st = ⟨[(1, (.v (.int .i64 b95_), []))], [], []⟩) ?_ ?_
  · refine Wc.block ?_
    refine Wc.loop (fun m st => ∃ (b93_ : Int) (b94_ : Int), st = ⟨[(0, (.v (.sl (List.map GClause.c f91_)), [])), (1, (.v (.int .i64 b93_), [])), (5, (.v (.int .i64 b94_), []))], [], []⟩ ∧ plaws_heldClauseS_L1 k f91_ m b93_ b94_ = some out1) ?_ k ⟨_, _, rfl, h84⟩
    rintro m st ⟨b93_, b94_, rfl, h84⟩
    cases m with
    | zero => exact (onone h84).elim
    | succ m =>
      refine Wc.seq ?_
      refine Wc.seq ?_
      refine Wc.region [{}, {}, { v := some (.int .i64 (f91_.length : Int)) }] [] [0, 1, 5, 9] [] [] ⟨[(0, (.v (.sl (List.map GClause.c f91_)), [])), (1, (.v (.int .i64 b93_), [])), (5, (.v (.int .i64 b94_), [])), (9, (.v (.bool (decide (b94_ < (f91_.length : Int)))), []))], [], []⟩ _ (by kernel_rfl) (.cons (len_obl GClause.c f91_) .nil) ?_
      rcases oif h84 with ⟨h85, h84⟩ | ⟨h85, h84⟩
      · refine Wc.condT h85 (by kernel_rfl) ?_
        refine Wc.fix (st' := ⟨[(0, (.v (.sl (List.map GClause.c f91_)), [])), (1, (.v (.int .i64 b93_), [])), (5, (.v (.int .i64 b94_), []))], [], []⟩) [] [0, 1, 5] [] [] (by kernel_rfl) ?_
        refine Wc.skip ?_
        refine Wc.seq ?_
        refine Wc.block ?_
        refine Wc.seq ?_
        refine Wc.seq ?_
        obtain ⟨e96_, h86, h84⟩ := obind h84
        refine Wc.region [{}, {}, { v := some (.vptr [.int .i64 e96_.gHead.gKind, .str e96_.gHead.gName, .int .i64 e96_.gHead.gNum, .sl (List.map GTerm.c e96_.gHead.gKids), .int .i64 e96_.gBody.gKind, .str e96_.gBody.gName, .int .i64 e96_.gBody.gNum, .sl (List.map GTerm.c e96_.gBody.gKids), .str e96_.gFile]) }] [] [0, 1, 5, 19] [] [] ⟨[(0, (.v (.sl (List.map GClause.c f91_)), [])), (1, (.v (.int .i64 b93_), [])), (5, (.v (.int .i64 b94_), [])), (19, (.v (.bool (e96_.gHead.gKind != b93_)), []))], [], []⟩ _ (by kernel_rfl) (.cons (at_obl (c := GClause.c) (GClause.c_eq e96_) GClause.c_len h86) (.cons (len_ok 1 [.int .i64 e96_.gHead.gKind, .str e96_.gHead.gName, .int .i64 e96_.gHead.gNum, .sl (List.map GTerm.c e96_.gHead.gKids), .int .i64 e96_.gBody.gKind, .str e96_.gBody.gName, .int .i64 e96_.gBody.gNum, .sl (List.map GTerm.c e96_.gBody.gKids), .str e96_.gFile]) .nil)) ?_
        rcases oif h84 with ⟨h87, h84⟩ | ⟨h87, h84⟩
        · refine Wc.condT h87 (by kernel_rfl) ?_
          refine Wc.seq ?_
          refine Wc.region [] [] [4] [] [] ⟨[(4, (.v (.int .i64 (-1)), []))], [], []⟩ _ (by kernel_rfl) .nil ?_
          refine Wc.ret ?_
          obtain rfl := Option.some.inj h84
          obtain rfl := Option.some.inj h
          exact ⟨.inl rfl, by kernel_rfl, by kernel_rfl⟩
        · refine Wc.condF h87 (by kernel_rfl) ?_
          refine Wc.fix (st' := ⟨[(0, (.v (.sl (List.map GClause.c f91_)), [])), (1, (.v (.int .i64 b93_), [])), (5, (.v (.int .i64 b94_), []))], [], []⟩) [] [0, 1, 5] [] [] (by kernel_rfl) ?_
          refine Wc.skip ?_
          refine Wc.seq ?_
          refine Wc.region [] [] [0, 1, 5] [] [] ⟨[(0, (.v (.sl (List.map GClause.c f91_)), [])), (1, (.v (.int .i64 (wr.i64 (b93_ + 1))), [])), (5, (.v (.int .i64 b94_), []))], [], []⟩ _ (by kernel_rfl) .nil ?_
          refine Wc.seq ?_
          refine Wc.seq ?_
          obtain ⟨e97_, h88, h84⟩ := obind h84
          obtain ⟨i98_, h89, h84⟩ := obind h84
          refine Wc.draw hmix [{}, {}, { v := some (.vptr [.int .i64 e97_.gHead.gKind, .str e97_.gHead.gName, .int .i64 e97_.gHead.gNum, .sl (List.map GTerm.c e97_.gHead.gKids), .int .i64 e97_.gBody.gKind, .str e97_.gBody.gName, .int .i64 e97_.gBody.gNum, .sl (List.map GTerm.c e97_.gBody.gKids), .str e97_.gFile]) }, {}, {}, {}, {}, { r := some (.v (.str i98_) []) }] [] [0, 1, 5, 30] [] [] ⟨[(0, (.v (.sl (List.map GClause.c f91_)), [])), (1, (.v (.int .i64 (wr.i64 (b93_ + 1))), [])), (5, (.v (.int .i64 b94_), [])), (30, (.v (.bool (!(sEq e97_.gHead.gName i98_))), []))], [], []⟩ _ (by kernel_rfl) (fun X => by kernel_rfl) (.cons (at_obl (c := GClause.c) (GClause.c_eq e97_) GClause.c_len h88) (.cons (len_ok 1 [.str e97_.gHead.gName, .int .i64 e97_.gHead.gNum, .sl (List.map GTerm.c e97_.gHead.gKids), .int .i64 e97_.gBody.gKind, .str e97_.gBody.gName, .int .i64 e97_.gBody.gNum, .sl (List.map GTerm.c e97_.gBody.gKids), .str e97_.gFile]) (.cons (claws_markText h89) .nil))) ?_
          rcases oif h84 with ⟨h90, h84⟩ | ⟨h90, h84⟩
          · refine Wc.condT h90 (by kernel_rfl) ?_
            refine Wc.seq ?_
            refine Wc.region [] [] [4] [] [] ⟨[(4, (.v (.int .i64 (-1)), []))], [], []⟩ _ (by kernel_rfl) .nil ?_
            refine Wc.ret ?_
            obtain rfl := Option.some.inj h84
            obtain rfl := Option.some.inj h
            exact ⟨.inl rfl, by kernel_rfl, by kernel_rfl⟩
          · refine Wc.condF h90 (by kernel_rfl) ?_
            refine Wc.fix (st' := ⟨[(0, (.v (.sl (List.map GClause.c f91_)), [])), (1, (.v (.int .i64 (wr.i64 (b93_ + 1))), [])), (5, (.v (.int .i64 b94_), []))], [], []⟩) [] [0, 1, 5] [] [] (by kernel_rfl) ?_
            refine Wc.skip ?_
            refine Wc.seq ?_
            refine Wc.region [] [] [0, 1, 5] [] [] ⟨[(0, (.v (.sl (List.map GClause.c f91_)), [])), (1, (.v (.int .i64 (wr.i64 ((wr.i64 (b93_ + 1)) + 1))), [])), (5, (.v (.int .i64 b94_), []))], [], []⟩ _ (by kernel_rfl) .nil ?_
            refine Wc.seq ?_
            refine Wc.seq ?_
            obtain ⟨e99_, h91, h84⟩ := obind h84
            refine Wc.region [{}, {}, { v := some (.vptr [.int .i64 e99_.gHead.gKind, .str e99_.gHead.gName, .int .i64 e99_.gHead.gNum, .sl (List.map GTerm.c e99_.gHead.gKids), .int .i64 e99_.gBody.gKind, .str e99_.gBody.gName, .int .i64 e99_.gBody.gNum, .sl (List.map GTerm.c e99_.gBody.gKids), .str e99_.gFile]) }] [] [0, 1, 5, 40] [] [] ⟨[(0, (.v (.sl (List.map GClause.c f91_)), [])), (1, (.v (.int .i64 (wr.i64 ((wr.i64 (b93_ + 1)) + 1))), [])), (5, (.v (.int .i64 b94_), [])), (40, (.v (.bool (e99_.gHead.gNum != (wr.i64 ((wr.i64 (b93_ + 1)) + 1)))), []))], [], []⟩ _ (by kernel_rfl) (.cons (at_obl (c := GClause.c) (GClause.c_eq e99_) GClause.c_len h91) (.cons (len_ok 1 [.int .i64 e99_.gHead.gNum, .sl (List.map GTerm.c e99_.gHead.gKids), .int .i64 e99_.gBody.gKind, .str e99_.gBody.gName, .int .i64 e99_.gBody.gNum, .sl (List.map GTerm.c e99_.gBody.gKids), .str e99_.gFile]) .nil)) ?_
            rcases oif h84 with ⟨h92, h84⟩ | ⟨h92, h84⟩
            · refine Wc.condT h92 (by kernel_rfl) ?_
              refine Wc.seq ?_
              refine Wc.region [] [] [4] [] [] ⟨[(4, (.v (.int .i64 (-1)), []))], [], []⟩ _ (by kernel_rfl) .nil ?_
              refine Wc.ret ?_
              obtain rfl := Option.some.inj h84
              obtain rfl := Option.some.inj h
              exact ⟨.inl rfl, by kernel_rfl, by kernel_rfl⟩
            · refine Wc.condF h92 (by kernel_rfl) ?_
              refine Wc.fix (st' := ⟨[(0, (.v (.sl (List.map GClause.c f91_)), [])), (1, (.v (.int .i64 (wr.i64 ((wr.i64 (b93_ + 1)) + 1))), [])), (5, (.v (.int .i64 b94_), []))], [], []⟩) [] [0, 1, 5] [] [] (by kernel_rfl) ?_
              refine Wc.skip ?_
              refine Wc.seq ?_
              refine Wc.region [] [] [0, 1, 5] [] [] ⟨[(0, (.v (.sl (List.map GClause.c f91_)), [])), (1, (.v (.int .i64 (wr.i64 ((wr.i64 ((wr.i64 (b93_ + 1)) + 1)) + 1))), [])), (5, (.v (.int .i64 b94_), []))], [], []⟩ _ (by kernel_rfl) .nil ?_
              refine Wc.seq ?_
              obtain ⟨e100_, h93, h84⟩ := obind h84
              obtain ⟨b101_, h94, h84⟩ := obind h84
              refine Wc.region [{}, {}, { v := some (.vptr [.int .i64 e100_.gHead.gKind, .str e100_.gHead.gName, .int .i64 e100_.gHead.gNum, .sl (List.map GTerm.c e100_.gHead.gKids), .int .i64 e100_.gBody.gKind, .str e100_.gBody.gName, .int .i64 e100_.gBody.gNum, .sl (List.map GTerm.c e100_.gBody.gKids), .str e100_.gFile]) }, {}, {}, {}, {}, { r := some (.v (.int .i64 b101_) []) }] [] [0, 1, 5] [] [] ⟨[(0, (.v (.sl (List.map GClause.c f91_)), [])), (1, (.v (.int .i64 b101_), [])), (5, (.v (.int .i64 b94_), []))], [], []⟩ _ (by kernel_rfl) (.cons (at_obl (c := GClause.c) (GClause.c_eq e100_) GClause.c_len h93) (.cons (len_ok 1 [.sl (List.map GTerm.c e100_.gHead.gKids), .int .i64 e100_.gBody.gKind, .str e100_.gBody.gName, .int .i64 e100_.gBody.gNum, .sl (List.map GTerm.c e100_.gBody.gKids), .str e100_.gFile]) (.cons (claws_heldTermS h94) .nil))) ?_
              refine Wc.seq ?_
              refine Wc.seq ?_
              refine Wc.region [] [] [0, 1, 5, 52] [] [] ⟨[(0, (.v (.sl (List.map GClause.c f91_)), [])), (1, (.v (.int .i64 b101_), [])), (5, (.v (.int .i64 b94_), [])), (52, (.v (.bool (decide (b101_ < 0))), []))], [], []⟩ _ (by kernel_rfl) .nil ?_
              rcases oif h84 with ⟨h95, h84⟩ | ⟨h95, h84⟩
              · refine Wc.condT h95 (by kernel_rfl) ?_
                refine Wc.seq ?_
                refine Wc.region [] [] [4] [] [] ⟨[(4, (.v (.int .i64 (-1)), []))], [], []⟩ _ (by kernel_rfl) .nil ?_
                refine Wc.ret ?_
                obtain rfl := Option.some.inj h84
                obtain rfl := Option.some.inj h
                exact ⟨.inl rfl, by kernel_rfl, by kernel_rfl⟩
              · refine Wc.condF h95 (by kernel_rfl) ?_
                refine Wc.fix (st' := ⟨[(0, (.v (.sl (List.map GClause.c f91_)), [])), (1, (.v (.int .i64 b101_), [])), (5, (.v (.int .i64 b94_), []))], [], []⟩) [] [0, 1, 5] [] [] (by kernel_rfl) ?_
                refine Wc.skip ?_
                refine Wc.seq ?_
                refine Wc.seq ?_
                obtain ⟨e102_, h96, h84⟩ := obind h84
                refine Wc.region [{}, {}, { v := some (.vptr [.int .i64 e102_.gHead.gKind, .str e102_.gHead.gName, .int .i64 e102_.gHead.gNum, .sl (List.map GTerm.c e102_.gHead.gKids), .int .i64 e102_.gBody.gKind, .str e102_.gBody.gName, .int .i64 e102_.gBody.gNum, .sl (List.map GTerm.c e102_.gBody.gKids), .str e102_.gFile]) }] [] [0, 1, 5, 60] [] [] ⟨[(0, (.v (.sl (List.map GClause.c f91_)), [])), (1, (.v (.int .i64 b101_), [])), (5, (.v (.int .i64 b94_), [])), (60, (.v (.bool (e102_.gBody.gKind != b101_)), []))], [], []⟩ _ (by kernel_rfl) (.cons (at_obl (c := GClause.c) (GClause.c_eq e102_) GClause.c_len h96) (.cons (len_ok 1 [.int .i64 e102_.gBody.gKind, .str e102_.gBody.gName, .int .i64 e102_.gBody.gNum, .sl (List.map GTerm.c e102_.gBody.gKids), .str e102_.gFile]) .nil)) ?_
                rcases oif h84 with ⟨h97, h84⟩ | ⟨h97, h84⟩
                · refine Wc.condT h97 (by kernel_rfl) ?_
                  refine Wc.seq ?_
                  refine Wc.region [] [] [4] [] [] ⟨[(4, (.v (.int .i64 (-1)), []))], [], []⟩ _ (by kernel_rfl) .nil ?_
                  refine Wc.ret ?_
                  obtain rfl := Option.some.inj h84
                  obtain rfl := Option.some.inj h
                  exact ⟨.inl rfl, by kernel_rfl, by kernel_rfl⟩
                · refine Wc.condF h97 (by kernel_rfl) ?_
                  refine Wc.fix (st' := ⟨[(0, (.v (.sl (List.map GClause.c f91_)), [])), (1, (.v (.int .i64 b101_), [])), (5, (.v (.int .i64 b94_), []))], [], []⟩) [] [0, 1, 5] [] [] (by kernel_rfl) ?_
                  refine Wc.skip ?_
                  refine Wc.seq ?_
                  refine Wc.region [] [] [0, 1, 5] [] [] ⟨[(0, (.v (.sl (List.map GClause.c f91_)), [])), (1, (.v (.int .i64 (wr.i64 (b101_ + 1))), [])), (5, (.v (.int .i64 b94_), []))], [], []⟩ _ (by kernel_rfl) .nil ?_
                  refine Wc.seq ?_
                  refine Wc.seq ?_
                  obtain ⟨e103_, h98, h84⟩ := obind h84
                  obtain ⟨i104_, h99, h84⟩ := obind h84
                  refine Wc.draw hmix [{}, {}, { v := some (.vptr [.int .i64 e103_.gHead.gKind, .str e103_.gHead.gName, .int .i64 e103_.gHead.gNum, .sl (List.map GTerm.c e103_.gHead.gKids), .int .i64 e103_.gBody.gKind, .str e103_.gBody.gName, .int .i64 e103_.gBody.gNum, .sl (List.map GTerm.c e103_.gBody.gKids), .str e103_.gFile]) }, {}, {}, {}, {}, { r := some (.v (.str i104_) []) }] [] [0, 1, 5, 71] [] [] ⟨[(0, (.v (.sl (List.map GClause.c f91_)), [])), (1, (.v (.int .i64 (wr.i64 (b101_ + 1))), [])), (5, (.v (.int .i64 b94_), [])), (71, (.v (.bool (!(sEq e103_.gBody.gName i104_))), []))], [], []⟩ _ (by kernel_rfl) (fun X => by kernel_rfl) (.cons (at_obl (c := GClause.c) (GClause.c_eq e103_) GClause.c_len h98) (.cons (len_ok 1 [.str e103_.gBody.gName, .int .i64 e103_.gBody.gNum, .sl (List.map GTerm.c e103_.gBody.gKids), .str e103_.gFile]) (.cons (claws_markText h99) .nil))) ?_
                  rcases oif h84 with ⟨h100, h84⟩ | ⟨h100, h84⟩
                  · refine Wc.condT h100 (by kernel_rfl) ?_
                    refine Wc.seq ?_
                    refine Wc.region [] [] [4] [] [] ⟨[(4, (.v (.int .i64 (-1)), []))], [], []⟩ _ (by kernel_rfl) .nil ?_
                    refine Wc.ret ?_
                    obtain rfl := Option.some.inj h84
                    obtain rfl := Option.some.inj h
                    exact ⟨.inl rfl, by kernel_rfl, by kernel_rfl⟩
                  · refine Wc.condF h100 (by kernel_rfl) ?_
                    refine Wc.fix (st' := ⟨[(0, (.v (.sl (List.map GClause.c f91_)), [])), (1, (.v (.int .i64 (wr.i64 (b101_ + 1))), [])), (5, (.v (.int .i64 b94_), []))], [], []⟩) [] [0, 1, 5] [] [] (by kernel_rfl) ?_
                    refine Wc.skip ?_
                    refine Wc.seq ?_
                    refine Wc.region [] [] [0, 1, 5] [] [] ⟨[(0, (.v (.sl (List.map GClause.c f91_)), [])), (1, (.v (.int .i64 (wr.i64 ((wr.i64 (b101_ + 1)) + 1))), [])), (5, (.v (.int .i64 b94_), []))], [], []⟩ _ (by kernel_rfl) .nil ?_
                    refine Wc.seq ?_
                    refine Wc.seq ?_
                    obtain ⟨e105_, h101, h84⟩ := obind h84
                    refine Wc.region [{}, {}, { v := some (.vptr [.int .i64 e105_.gHead.gKind, .str e105_.gHead.gName, .int .i64 e105_.gHead.gNum, .sl (List.map GTerm.c e105_.gHead.gKids), .int .i64 e105_.gBody.gKind, .str e105_.gBody.gName, .int .i64 e105_.gBody.gNum, .sl (List.map GTerm.c e105_.gBody.gKids), .str e105_.gFile]) }] [] [0, 1, 5, 81] [] [] ⟨[(0, (.v (.sl (List.map GClause.c f91_)), [])), (1, (.v (.int .i64 (wr.i64 ((wr.i64 (b101_ + 1)) + 1))), [])), (5, (.v (.int .i64 b94_), [])), (81, (.v (.bool (e105_.gBody.gNum != (wr.i64 ((wr.i64 (b101_ + 1)) + 1)))), []))], [], []⟩ _ (by kernel_rfl) (.cons (at_obl (c := GClause.c) (GClause.c_eq e105_) GClause.c_len h101) (.cons (len_ok 1 [.int .i64 e105_.gBody.gNum, .sl (List.map GTerm.c e105_.gBody.gKids), .str e105_.gFile]) .nil)) ?_
                    rcases oif h84 with ⟨h102, h84⟩ | ⟨h102, h84⟩
                    · refine Wc.condT h102 (by kernel_rfl) ?_
                      refine Wc.seq ?_
                      refine Wc.region [] [] [4] [] [] ⟨[(4, (.v (.int .i64 (-1)), []))], [], []⟩ _ (by kernel_rfl) .nil ?_
                      refine Wc.ret ?_
                      obtain rfl := Option.some.inj h84
                      obtain rfl := Option.some.inj h
                      exact ⟨.inl rfl, by kernel_rfl, by kernel_rfl⟩
                    · refine Wc.condF h102 (by kernel_rfl) ?_
                      refine Wc.fix (st' := ⟨[(0, (.v (.sl (List.map GClause.c f91_)), [])), (1, (.v (.int .i64 (wr.i64 ((wr.i64 (b101_ + 1)) + 1))), [])), (5, (.v (.int .i64 b94_), []))], [], []⟩) [] [0, 1, 5] [] [] (by kernel_rfl) ?_
                      refine Wc.skip ?_
                      refine Wc.seq ?_
                      refine Wc.region [] [] [0, 1, 5] [] [] ⟨[(0, (.v (.sl (List.map GClause.c f91_)), [])), (1, (.v (.int .i64 (wr.i64 ((wr.i64 ((wr.i64 (b101_ + 1)) + 1)) + 1))), [])), (5, (.v (.int .i64 b94_), []))], [], []⟩ _ (by kernel_rfl) .nil ?_
                      refine Wc.seq ?_
                      obtain ⟨e106_, h103, h84⟩ := obind h84
                      obtain ⟨b107_, h104, h84⟩ := obind h84
                      refine Wc.region [{}, {}, { v := some (.vptr [.int .i64 e106_.gHead.gKind, .str e106_.gHead.gName, .int .i64 e106_.gHead.gNum, .sl (List.map GTerm.c e106_.gHead.gKids), .int .i64 e106_.gBody.gKind, .str e106_.gBody.gName, .int .i64 e106_.gBody.gNum, .sl (List.map GTerm.c e106_.gBody.gKids), .str e106_.gFile]) }, {}, {}, {}, {}, { r := some (.v (.int .i64 b107_) []) }] [] [0, 1, 5] [] [] ⟨[(0, (.v (.sl (List.map GClause.c f91_)), [])), (1, (.v (.int .i64 b107_), [])), (5, (.v (.int .i64 b94_), []))], [], []⟩ _ (by kernel_rfl) (.cons (at_obl (c := GClause.c) (GClause.c_eq e106_) GClause.c_len h103) (.cons (len_ok 1 [.sl (List.map GTerm.c e106_.gBody.gKids), .str e106_.gFile]) (.cons (claws_heldTermS h104) .nil))) ?_
                      refine Wc.seq ?_
                      refine Wc.seq ?_
                      refine Wc.region [] [] [0, 1, 5, 93] [] [] ⟨[(0, (.v (.sl (List.map GClause.c f91_)), [])), (1, (.v (.int .i64 b107_), [])), (5, (.v (.int .i64 b94_), [])), (93, (.v (.bool (decide (b107_ < 0))), []))], [], []⟩ _ (by kernel_rfl) .nil ?_
                      rcases oif h84 with ⟨h105, h84⟩ | ⟨h105, h84⟩
                      · refine Wc.condT h105 (by kernel_rfl) ?_
                        refine Wc.seq ?_
                        refine Wc.region [] [] [4] [] [] ⟨[(4, (.v (.int .i64 (-1)), []))], [], []⟩ _ (by kernel_rfl) .nil ?_
                        refine Wc.ret ?_
                        obtain rfl := Option.some.inj h84
                        obtain rfl := Option.some.inj h
                        exact ⟨.inl rfl, by kernel_rfl, by kernel_rfl⟩
                      · refine Wc.condF h105 (by kernel_rfl) ?_
                        refine Wc.fix (st' := ⟨[(0, (.v (.sl (List.map GClause.c f91_)), [])), (1, (.v (.int .i64 b107_), [])), (5, (.v (.int .i64 b94_), []))], [], []⟩) [] [0, 1, 5] [] [] (by kernel_rfl) ?_
                        refine Wc.skip ?_
                        refine Wc.seq ?_
                        refine Wc.seq ?_
                        obtain ⟨e108_, h106, h84⟩ := obind h84
                        obtain ⟨i109_, h107, h84⟩ := obind h84
                        refine Wc.draw hmix [{}, {}, { v := some (.vptr [.int .i64 e108_.gHead.gKind, .str e108_.gHead.gName, .int .i64 e108_.gHead.gNum, .sl (List.map GTerm.c e108_.gHead.gKids), .int .i64 e108_.gBody.gKind, .str e108_.gBody.gName, .int .i64 e108_.gBody.gNum, .sl (List.map GTerm.c e108_.gBody.gKids), .str e108_.gFile]) }, {}, {}, {}, { r := some (.v (.str i109_) []) }] [] [0, 1, 5, 101] [] [] ⟨[(0, (.v (.sl (List.map GClause.c f91_)), [])), (1, (.v (.int .i64 b107_), [])), (5, (.v (.int .i64 b94_), [])), (101, (.v (.bool (!(sEq e108_.gFile i109_))), []))], [], []⟩ _ (by kernel_rfl) (fun X => by kernel_rfl) (.cons (at_obl (c := GClause.c) (GClause.c_eq e108_) GClause.c_len h106) (.cons (len_ok 1 [.str e108_.gFile]) (.cons (claws_markText h107) .nil))) ?_
                        rcases oif h84 with ⟨h108, h84⟩ | ⟨h108, h84⟩
                        · refine Wc.condT h108 (by kernel_rfl) ?_
                          refine Wc.seq ?_
                          refine Wc.region [] [] [4] [] [] ⟨[(4, (.v (.int .i64 (-1)), []))], [], []⟩ _ (by kernel_rfl) .nil ?_
                          refine Wc.ret ?_
                          obtain rfl := Option.some.inj h84
                          obtain rfl := Option.some.inj h
                          exact ⟨.inl rfl, by kernel_rfl, by kernel_rfl⟩
                        · refine Wc.condF h108 (by kernel_rfl) ?_
                          refine Wc.fix (st' := ⟨[(0, (.v (.sl (List.map GClause.c f91_)), [])), (1, (.v (.int .i64 b107_), [])), (5, (.v (.int .i64 b94_), []))], [], []⟩) [] [0, 1, 5] [] [] (by kernel_rfl) ?_
                          refine Wc.skip ?_
                          refine Wc.region [] [] [0, 1, 5] [] [] ⟨[(0, (.v (.sl (List.map GClause.c f91_)), [])), (1, (.v (.int .i64 (wr.i64 (b107_ + 1))), [])), (5, (.v (.int .i64 b94_), []))], [], []⟩ _ (by kernel_rfl) .nil ?_
                          refine Wc.region [] [] [0, 1, 5] [] [] ⟨[(0, (.v (.sl (List.map GClause.c f91_)), [])), (1, (.v (.int .i64 (wr.i64 (b107_ + 1))), [])), (5, (.v (.int .i64 (wr.i64 (b94_ + 1))), []))], [], []⟩ _ (by kernel_rfl) .nil ?_
                          exact ⟨_, Nat.lt_succ_self _, _, _, rfl, h84⟩
      · refine Wc.condF h85 (by kernel_rfl) ?_
        refine Wc.fix (st' := ⟨[(1, (.v (.int .i64 b93_), []))], [], []⟩) [] [1] [] [] (by kernel_rfl) ?_
        refine Wc.exit ?_
        obtain rfl := Option.some.inj h84
        exact ⟨_, rfl, rfl⟩
  · rintro st ⟨b95_, rfl, rfl⟩
    refine Wc.seq ?_
    refine Wc.region [] [] [4] [] [] ⟨[(4, (.v (.int .i64 b95_), []))], [], []⟩ _ (by kernel_rfl) .nil ?_
    refine Wc.ret ?_
    obtain rfl := Option.some.inj h
    exact ⟨.inl rfl, by kernel_rfl, by kernel_rfl⟩

def plaws_heldStringS_L1 (k : Nat) (g110_ : List ByteArray) : Nat → Int → Int → Option (Out Int Int)
  | 0, _, _ => none
  | m + 1, b112_, b113_ =>
    if (decide (b113_ < (g110_.length : Int))) = true then
      (at' g110_ b113_).bind fun i115_ =>
      (plaws_markText k b112_).bind fun i116_ =>
      if (!(sEq i115_ i116_)) = true then
        some (.ret (-1))
      else
        plaws_heldStringS_L1 k g110_ m (wr.i64 (b112_ + 1)) (wr.i64 (b113_ + 1))
    else
      some (.done b112_)
/-- laws.heldStringS -/
def plaws_heldStringS (k : Nat) (g110_ : List ByteArray) (b111_ : Int) : Option Int :=
  (plaws_heldStringS_L1 k g110_ k b111_ 0).bind fun out1 => match out1 with
  | .ret r => some r
  | .done b114_ =>
    some b114_
theorem claws_heldStringS {k : Nat} {g110_ : List ByteArray} {b111_ : Int} {r : Int} (h : plaws_heldStringS k g110_ b111_ = some r) : FnO Try.prog 62 [.v (.sl (List.map cS g110_)) [], .v (.int .i64 b111_) []] (.v (.int .i64 r) []) [] := by
  refine FnO.of Try.func62 (rfl : Try.f62.body = some _) (Nat.le_of_ble_eq_true (by kernel_rfl)) (Nat.le_of_ble_eq_true (by kernel_rfl)) ?_
  intro w0 X0 Fin pv0 pb
  unfold plaws_heldStringS at h
  refine Wc.seq ?_
  refine Wc.region [] [] [0, 1] [] [] ⟨[(0, (.v (.sl (List.map cS g110_)), [])), (1, (.v (.int .i64 b111_), []))], [], []⟩ _ (by kernel_rfl) .nil ?_
  refine Wc.seq ?_
  refine Wc.seq ?_
  refine Wc.region [] [] [0, 1, 5] [] [] ⟨[(0, (.v (.sl (List.map cS g110_)), [])), (1, (.v (.int .i64 b111_), [])), (5, (.v (.int .i64 0), []))], [], []⟩ _ (by kernel_rfl) .nil ?_
  obtain ⟨out1, h109, h⟩ := obind h
  refine Wc.lastJ (fun st => ∃ (b114_ : Int), out1 = .done b114_ ∧ st = ⟨[(1, (.v (.int .i64 b114_), []))], [], []⟩) ?_ ?_
  · refine Wc.block ?_
    refine Wc.loop (fun m st => ∃ (b112_ : Int) (b113_ : Int), st = ⟨[(0, (.v (.sl (List.map cS g110_)), [])), (1, (.v (.int .i64 b112_), [])), (5, (.v (.int .i64 b113_), []))], [], []⟩ ∧ plaws_heldStringS_L1 k g110_ m b112_ b113_ = some out1) ?_ k ⟨_, _, rfl, h109⟩
    rintro m st ⟨b112_, b113_, rfl, h109⟩
    cases m with
    | zero => exact (onone h109).elim
    | succ m =>
      refine Wc.seq ?_
      refine Wc.seq ?_
      refine Wc.region [{}, {}, { v := some (.int .i64 (g110_.length : Int)) }] [] [0, 1, 5, 9] [] [] ⟨[(0, (.v (.sl (List.map cS g110_)), [])), (1, (.v (.int .i64 b112_), [])), (5, (.v (.int .i64 b113_), [])), (9, (.v (.bool (decide (b113_ < (g110_.length : Int)))), []))], [], []⟩ _ (by kernel_rfl) (.cons (len_obl cS g110_) .nil) ?_
      rcases oif h109 with ⟨h110, h109⟩ | ⟨h110, h109⟩
      · refine Wc.condT h110 (by kernel_rfl) ?_
        refine Wc.fix (st' := ⟨[(0, (.v (.sl (List.map cS g110_)), [])), (1, (.v (.int .i64 b112_), [])), (5, (.v (.int .i64 b113_), []))], [], []⟩) [] [0, 1, 5] [] [] (by kernel_rfl) ?_
        refine Wc.skip ?_
        refine Wc.seq ?_
        refine Wc.block ?_
        refine Wc.seq ?_
        refine Wc.seq ?_
        obtain ⟨i115_, h111, h109⟩ := obind h109
        obtain ⟨i116_, h112, h109⟩ := obind h109
        refine Wc.draw hmix [{}, {}, { v := some (.vptr [.str i115_]) }, {}, {}, { r := some (.v (.str i116_) []) }] [] [0, 1, 5, 18] [] [] ⟨[(0, (.v (.sl (List.map cS g110_)), [])), (1, (.v (.int .i64 b112_), [])), (5, (.v (.int .i64 b113_), [])), (18, (.v (.bool (!(sEq i115_ i116_))), []))], [], []⟩ _ (by kernel_rfl) (fun X => by kernel_rfl) (.cons (at_obl (c := cS) rfl cS_len h111) (.cons (len_ok 1 [.str i115_]) (.cons (claws_markText h112) .nil))) ?_
        rcases oif h109 with ⟨h113, h109⟩ | ⟨h113, h109⟩
        · refine Wc.condT h113 (by kernel_rfl) ?_
          refine Wc.seq ?_
          refine Wc.region [] [] [4] [] [] ⟨[(4, (.v (.int .i64 (-1)), []))], [], []⟩ _ (by kernel_rfl) .nil ?_
          refine Wc.ret ?_
          obtain rfl := Option.some.inj h109
          obtain rfl := Option.some.inj h
          exact ⟨.inl rfl, by kernel_rfl, by kernel_rfl⟩
        · refine Wc.condF h113 (by kernel_rfl) ?_
          refine Wc.fix (st' := ⟨[(0, (.v (.sl (List.map cS g110_)), [])), (1, (.v (.int .i64 b112_), [])), (5, (.v (.int .i64 b113_), []))], [], []⟩) [] [0, 1, 5] [] [] (by kernel_rfl) ?_
          refine Wc.skip ?_
          refine Wc.region [] [] [0, 1, 5] [] [] ⟨[(0, (.v (.sl (List.map cS g110_)), [])), (1, (.v (.int .i64 (wr.i64 (b112_ + 1))), [])), (5, (.v (.int .i64 b113_), []))], [], []⟩ _ (by kernel_rfl) .nil ?_
          refine Wc.region [] [] [0, 1, 5] [] [] ⟨[(0, (.v (.sl (List.map cS g110_)), [])), (1, (.v (.int .i64 (wr.i64 (b112_ + 1))), [])), (5, (.v (.int .i64 (wr.i64 (b113_ + 1))), []))], [], []⟩ _ (by kernel_rfl) .nil ?_
          exact ⟨_, Nat.lt_succ_self _, _, _, rfl, h109⟩
      · refine Wc.condF h110 (by kernel_rfl) ?_
        refine Wc.fix (st' := ⟨[(1, (.v (.int .i64 b112_), []))], [], []⟩) [] [1] [] [] (by kernel_rfl) ?_
        refine Wc.exit ?_
        obtain rfl := Option.some.inj h109
        exact ⟨_, rfl, rfl⟩
  · rintro st ⟨b114_, rfl, rfl⟩
    refine Wc.seq ?_
    refine Wc.region [] [] [4] [] [] ⟨[(4, (.v (.int .i64 b114_), []))], [], []⟩ _ (by kernel_rfl) .nil ?_
    refine Wc.ret ?_
    obtain rfl := Option.some.inj h
    exact ⟨.inl rfl, by kernel_rfl, by kernel_rfl⟩

/-- laws.heldDb -/
def plaws_heldDb (k : Nat) (j117_ : GDb) (b118_ : Int) : Option Int :=
  (plaws_heldClauseS k j117_.gClauses b118_).bind fun b119_ =>
  if (decide (b119_ < 0)) = true then
    some (-1)
  else
    (plaws_heldStringS k j117_.gOpen b119_).bind fun b120_ =>
    if (decide (b120_ < 0)) = true then
      some (-1)
    else
      some b120_
theorem claws_heldDb {k : Nat} {j117_ : GDb} {b118_ : Int} {r : Int} (h : plaws_heldDb k j117_ b118_ = some r) : FnO Try.prog 15 [.v (.agg [.sl (List.map GClause.c j117_.gClauses), .sl (List.map cS j117_.gOpen)]) [], .v (.int .i64 b118_) []] (.v (.int .i64 r) []) [] := by
  refine FnO.of Try.func15 (rfl : Try.f15.body = some _) (Nat.le_of_ble_eq_true (by kernel_rfl)) (Nat.le_of_ble_eq_true (by kernel_rfl)) ?_
  intro w0 X0 Fin pv0 pb
  unfold plaws_heldDb at h
  refine Wc.seq ?_
  refine Wc.region [] [] [1, 2] [2] [] ⟨[(1, (.v (.int .i64 b118_), [])), (2, (.ptr 2 0, []))], [(2, .cells [.sl (List.map GClause.c j117_.gClauses), .sl (List.map cS j117_.gOpen)] [])], []⟩ _ (by kernel_rfl) .nil ?_
  refine Wc.seq ?_
  obtain ⟨b119_, h114, h⟩ := obind h
  refine Wc.region [{}, {}, {}, { r := some (.v (.int .i64 b119_) []) }] [] [1, 2] [2] [] ⟨[(1, (.v (.int .i64 b119_), [])), (2, (.ptr 2 0, []))], [(2, .cells [.sl (List.map GClause.c j117_.gClauses), .sl (List.map cS j117_.gOpen)] [])], []⟩ _ (by kernel_rfl) (.cons (claws_heldClauseS h114) .nil) ?_
  refine Wc.seq ?_
  refine Wc.seq ?_
  refine Wc.region [] [] [1, 2, 10] [2] [] ⟨[(1, (.v (.int .i64 b119_), [])), (2, (.ptr 2 0, [])), (10, (.v (.bool (decide (b119_ < 0))), []))], [(2, .cells [.sl (List.map GClause.c j117_.gClauses), .sl (List.map cS j117_.gOpen)] [])], []⟩ _ (by kernel_rfl) .nil ?_
  rcases oif h with ⟨h115, h⟩ | ⟨h115, h⟩
  · refine Wc.condT h115 (by kernel_rfl) ?_
    refine Wc.seq ?_
    refine Wc.region [] [] [4] [] [] ⟨[(4, (.v (.int .i64 (-1)), []))], [], []⟩ _ (by kernel_rfl) .nil ?_
    refine Wc.ret ?_
    obtain rfl := Option.some.inj h
    exact ⟨.inl rfl, by kernel_rfl, by kernel_rfl⟩
  · refine Wc.condF h115 (by kernel_rfl) ?_
    refine Wc.fix (st' := ⟨[(1, (.v (.int .i64 b119_), [])), (2, (.ptr 2 0, []))], [(2, .cells [.sl (List.map GClause.c j117_.gClauses), .sl (List.map cS j117_.gOpen)] [])], []⟩) [] [1, 2] [2] [] (by kernel_rfl) ?_
    refine Wc.skip ?_
    refine Wc.seq ?_
    obtain ⟨b120_, h116, h⟩ := obind h
    refine Wc.region [{}, {}, {}, { r := some (.v (.int .i64 b120_) []) }] [] [1] [] [] ⟨[(1, (.v (.int .i64 b120_), []))], [], []⟩ _ (by kernel_rfl) (.cons (claws_heldStringS h116) .nil) ?_
    refine Wc.seq ?_
    refine Wc.seq ?_
    refine Wc.region [] [] [1, 16] [] [] ⟨[(1, (.v (.int .i64 b120_), [])), (16, (.v (.bool (decide (b120_ < 0))), []))], [], []⟩ _ (by kernel_rfl) .nil ?_
    rcases oif h with ⟨h117, h⟩ | ⟨h117, h⟩
    · refine Wc.condT h117 (by kernel_rfl) ?_
      refine Wc.seq ?_
      refine Wc.region [] [] [4] [] [] ⟨[(4, (.v (.int .i64 (-1)), []))], [], []⟩ _ (by kernel_rfl) .nil ?_
      refine Wc.ret ?_
      obtain rfl := Option.some.inj h
      exact ⟨.inl rfl, by kernel_rfl, by kernel_rfl⟩
    · refine Wc.condF h117 (by kernel_rfl) ?_
      refine Wc.fix (st' := ⟨[(1, (.v (.int .i64 b120_), []))], [], []⟩) [] [1] [] [] (by kernel_rfl) ?_
      refine Wc.skip ?_
      refine Wc.seq ?_
      refine Wc.region [] [] [4] [] [] ⟨[(4, (.v (.int .i64 b120_), []))], [], []⟩ _ (by kernel_rfl) .nil ?_
      refine Wc.ret ?_
      obtain rfl := Option.some.inj h
      exact ⟨.inl rfl, by kernel_rfl, by kernel_rfl⟩

def plaws_szStringS_L1 (k : Nat) (g121_ : List ByteArray) : Nat → Int → Int → Option (Out Int Int)
  | 0, _, _ => none
  | m + 1, b123_, b124_ =>
    if (decide (b124_ < (g121_.length : Int))) = true then
      (at' g121_ b124_).bind fun i126_ =>
      if (decide ((wr.i64 (b123_ - (i126_.size : Int))) < 0)) = true then
        some (.ret (-1))
      else
        plaws_szStringS_L1 k g121_ m (wr.i64 (b123_ - (i126_.size : Int))) (wr.i64 (b124_ + 1))
    else
      some (.done b123_)
/-- laws.szStringS -/
def plaws_szStringS (k : Nat) (g121_ : List ByteArray) (b122_ : Int) : Option Int :=
  if (decide ((wr.i64 (b122_ - (g121_.length : Int))) < 0)) = true then
    some (-1)
  else
    (plaws_szStringS_L1 k g121_ k (wr.i64 (b122_ - (g121_.length : Int))) 0).bind fun out1 => match out1 with
    | .ret r => some r
    | .done b125_ =>
      some b125_
theorem claws_szStringS {k : Nat} {g121_ : List ByteArray} {b122_ : Int} {r : Int} (h : plaws_szStringS k g121_ b122_ = some r) : FnO Try.prog 49 [.v (.sl (List.map cS g121_)) [], .v (.int .i64 b122_) []] (.v (.int .i64 r) []) [] := by
  refine FnO.of Try.func49 (rfl : Try.f49.body = some _) (Nat.le_of_ble_eq_true (by kernel_rfl)) (Nat.le_of_ble_eq_true (by kernel_rfl)) ?_
  intro w0 X0 Fin pv0 pb
  unfold plaws_szStringS at h
  refine Wc.seq ?_
  refine Wc.region [] [] [0, 1] [] [] ⟨[(0, (.v (.sl (List.map cS g121_)), [])), (1, (.v (.int .i64 b122_), []))], [], []⟩ _ (by kernel_rfl) .nil ?_
  refine Wc.seq ?_
  refine Wc.region [{}, {}, { v := some (.int .i64 (g121_.length : Int)) }] [] [0, 1] [] [] ⟨[(0, (.v (.sl (List.map cS g121_)), [])), (1, (.v (.int .i64 (wr.i64 (b122_ - (g121_.length : Int)))), []))], [], []⟩ _ (by kernel_rfl) (.cons (len_obl cS g121_) .nil) ?_
  refine Wc.seq ?_
  refine Wc.seq ?_
  refine Wc.region [] [] [0, 1, 11] [] [] ⟨[(0, (.v (.sl (List.map cS g121_)), [])), (1, (.v (.int .i64 (wr.i64 (b122_ - (g121_.length : Int)))), [])), (11, (.v (.bool (decide ((wr.i64 (b122_ - (g121_.length : Int))) < 0))), []))], [], []⟩ _ (by kernel_rfl) .nil ?_
  rcases oif h with ⟨h118, h⟩ | ⟨h118, h⟩
  · refine Wc.condT h118 (by kernel_rfl) ?_
    refine Wc.seq ?_
    refine Wc.region [] [] [4] [] [] ⟨[(4, (.v (.int .i64 (-1)), []))], [], []⟩ _ (by kernel_rfl) .nil ?_
    refine Wc.ret ?_
    obtain rfl := Option.some.inj h
    exact ⟨.inl rfl, by kernel_rfl, by kernel_rfl⟩
  · refine Wc.condF h118 (by kernel_rfl) ?_
    refine Wc.fix (st' := ⟨[(0, (.v (.sl (List.map cS g121_)), [])), (1, (.v (.int .i64 (wr.i64 (b122_ - (g121_.length : Int)))), []))], [], []⟩) [] [0, 1] [] [] (by kernel_rfl) ?_
    refine Wc.skip ?_
    refine Wc.seq ?_
    refine Wc.seq ?_
    refine Wc.region [] [] [0, 1, 5] [] [] ⟨[(0, (.v (.sl (List.map cS g121_)), [])), (1, (.v (.int .i64 (wr.i64 (b122_ - (g121_.length : Int)))), [])), (5, (.v (.int .i64 0), []))], [], []⟩ _ (by kernel_rfl) .nil ?_
    obtain ⟨out1, h119, h⟩ := obind h
    refine Wc.lastJ (fun st => ∃ (b125_ : Int), out1 = .done b125_ ∧ st = ⟨[(1, (.v (.int .i64 b125_), []))], [], []⟩) ?_ ?_
    · refine Wc.block ?_
      refine Wc.loop (fun m st => ∃ (b123_ : Int) (b124_ : Int), st = ⟨[(0, (.v (.sl (List.map cS g121_)), [])), (1, (.v (.int .i64 b123_), [])), (5, (.v (.int .i64 b124_), []))], [], []⟩ ∧ plaws_szStringS_L1 k g121_ m b123_ b124_ = some out1) ?_ k ⟨_, _, rfl, h119⟩
      rintro m st ⟨b123_, b124_, rfl, h119⟩
      cases m with
      | zero => exact (onone h119).elim
      | succ m =>
        refine Wc.seq ?_
        refine Wc.seq ?_
        refine Wc.region [{}, {}, { v := some (.int .i64 (g121_.length : Int)) }] [] [0, 1, 5, 15] [] [] ⟨[(0, (.v (.sl (List.map cS g121_)), [])), (1, (.v (.int .i64 b123_), [])), (5, (.v (.int .i64 b124_), [])), (15, (.v (.bool (decide (b124_ < (g121_.length : Int)))), []))], [], []⟩ _ (by kernel_rfl) (.cons (len_obl cS g121_) .nil) ?_
        rcases oif h119 with ⟨h120, h119⟩ | ⟨h120, h119⟩
        · refine Wc.condT h120 (by kernel_rfl) ?_
          refine Wc.fix (st' := ⟨[(0, (.v (.sl (List.map cS g121_)), [])), (1, (.v (.int .i64 b123_), [])), (5, (.v (.int .i64 b124_), []))], [], []⟩) [] [0, 1, 5] [] [] (by kernel_rfl) ?_
          refine Wc.skip ?_
          refine Wc.seq ?_
          refine Wc.block ?_
          refine Wc.seq ?_
          obtain ⟨i126_, h121, h119⟩ := obind h119
          refine Wc.region [{}, {}, {}, { v := some (.vptr [.str i126_]) }] [] [0, 1, 5] [] [] ⟨[(0, (.v (.sl (List.map cS g121_)), [])), (1, (.v (.int .i64 (wr.i64 (b123_ - (i126_.size : Int)))), [])), (5, (.v (.int .i64 b124_), []))], [], []⟩ _ (by kernel_rfl) (.cons (at_obl (c := cS) rfl cS_len h121) (.cons (len_ok 1 [.str i126_]) .nil)) ?_
          refine Wc.seq ?_
          refine Wc.region [] [] [0, 1, 5, 26] [] [] ⟨[(0, (.v (.sl (List.map cS g121_)), [])), (1, (.v (.int .i64 (wr.i64 (b123_ - (i126_.size : Int)))), [])), (5, (.v (.int .i64 b124_), [])), (26, (.v (.bool (decide ((wr.i64 (b123_ - (i126_.size : Int))) < 0))), []))], [], []⟩ _ (by kernel_rfl) .nil ?_
          rcases oif h119 with ⟨h122, h119⟩ | ⟨h122, h119⟩
          · refine Wc.condT h122 (by kernel_rfl) ?_
            refine Wc.seq ?_
            refine Wc.region [] [] [4] [] [] ⟨[(4, (.v (.int .i64 (-1)), []))], [], []⟩ _ (by kernel_rfl) .nil ?_
            refine Wc.ret ?_
            obtain rfl := Option.some.inj h119
            obtain rfl := Option.some.inj h
            exact ⟨.inl rfl, by kernel_rfl, by kernel_rfl⟩
          · refine Wc.condF h122 (by kernel_rfl) ?_
            refine Wc.fix (st' := ⟨[(0, (.v (.sl (List.map cS g121_)), [])), (1, (.v (.int .i64 (wr.i64 (b123_ - (i126_.size : Int)))), [])), (5, (.v (.int .i64 b124_), []))], [], []⟩) [] [0, 1, 5] [] [] (by kernel_rfl) ?_
            refine Wc.skip ?_
            refine Wc.region [] [] [0, 1, 5] [] [] ⟨[(0, (.v (.sl (List.map cS g121_)), [])), (1, (.v (.int .i64 (wr.i64 (b123_ - (i126_.size : Int)))), [])), (5, (.v (.int .i64 (wr.i64 (b124_ + 1))), []))], [], []⟩ _ (by kernel_rfl) .nil ?_
            exact ⟨_, Nat.lt_succ_self _, _, _, rfl, h119⟩
        · refine Wc.condF h120 (by kernel_rfl) ?_
          refine Wc.fix (st' := ⟨[(1, (.v (.int .i64 b123_), []))], [], []⟩) [] [1] [] [] (by kernel_rfl) ?_
          refine Wc.exit ?_
          obtain rfl := Option.some.inj h119
          exact ⟨_, rfl, rfl⟩
    · rintro st ⟨b125_, rfl, rfl⟩
      refine Wc.seq ?_
      refine Wc.region [] [] [4] [] [] ⟨[(4, (.v (.int .i64 b125_), []))], [], []⟩ _ (by kernel_rfl) .nil ?_
      refine Wc.ret ?_
      obtain rfl := Option.some.inj h
      exact ⟨.inl rfl, by kernel_rfl, by kernel_rfl⟩

def plaws_szTermS_L1 (k : Nat) (rlaws_szTerm : GTerm → Int → Option Int) (rlaws_szTermS : (List GTerm) → Int → Option Int) (a130_ : List GTerm) : Nat → Int → Int → Option (Out Int Int)
  | 0, _, _ => none
  | m + 1, b132_, b133_ =>
    if (decide (b133_ < (a130_.length : Int))) = true then
      (at' a130_ b133_).bind fun c135_ =>
      (rlaws_szTerm c135_ b132_).bind fun b136_ =>
      if (decide (b136_ < 0)) = true then
        some (.ret (-1))
      else
        plaws_szTermS_L1 k rlaws_szTerm rlaws_szTermS a130_ m b136_ (wr.i64 (b133_ + 1))
    else
      some (.done b132_)
mutual
/-- laws.szTerm -/
def plaws_szTerm : Nat → GTerm → Int → Option Int
  | 0, _, _ => none
  | k + 1, c127_, b128_ =>
    if (decide ((wr.i64 (b128_ - (c127_.gName.size : Int))) < 0)) = true then
      some (-1)
    else
      (plaws_szTermS k c127_.gKids (wr.i64 (b128_ - (c127_.gName.size : Int)))).bind fun b129_ =>
      if (decide (b129_ < 0)) = true then
        some (-1)
      else
        some b129_
/-- laws.szTermS -/
def plaws_szTermS : Nat → (List GTerm) → Int → Option Int
  | 0, _, _ => none
  | k + 1, a130_, b131_ =>
    if (decide ((wr.i64 (b131_ - (a130_.length : Int))) < 0)) = true then
      some (-1)
    else
      (plaws_szTermS_L1 k (plaws_szTerm k) (plaws_szTermS k) a130_ k (wr.i64 (b131_ - (a130_.length : Int))) 0).bind fun out1 => match out1 with
      | .ret r => some r
      | .done b134_ =>
        some b134_
end
theorem all_plaws_szTerm : ∀ k : Nat, (∀ {c127_ : GTerm} {b128_ : Int} {r : Int}, plaws_szTerm k c127_ b128_ = some r → FnO Try.prog 34 [.v (.agg [.int .i64 c127_.gKind, .str c127_.gName, .int .i64 c127_.gNum, .sl (List.map GTerm.c c127_.gKids)]) [], .v (.int .i64 b128_) []] (.v (.int .i64 r) []) []) ∧
    (∀ {a130_ : List GTerm} {b131_ : Int} {r : Int}, plaws_szTermS k a130_ b131_ = some r → FnO Try.prog 87 [.v (.sl (List.map GTerm.c a130_)) [], .v (.int .i64 b131_) []] (.v (.int .i64 r) []) []) := by
  intro k
  induction k with
  | zero =>
    refine ⟨?_, ?_⟩
    · intro c127_ b128_ r h
      exact (onone (by rw [plaws_szTerm] at h; exact h)).elim
    · intro a130_ b131_ r h
      exact (onone (by rw [plaws_szTermS] at h; exact h)).elim
  | succ k ih =>
    obtain ⟨ih_plaws_szTerm, ih_plaws_szTermS⟩ := ih
    refine ⟨?_, ?_⟩
    · intro c127_ b128_ r h
      rw [plaws_szTerm] at h
      refine FnO.of Try.func34 (rfl : Try.f34.body = some _) (Nat.le_of_ble_eq_true (by kernel_rfl)) (Nat.le_of_ble_eq_true (by kernel_rfl)) ?_
      intro w0 X0 Fin pv0 pb
      refine Wc.seq ?_
      refine Wc.region [] [] [1, 2] [2] [] ⟨[(1, (.v (.int .i64 b128_), [])), (2, (.ptr 2 0, []))], [(2, .cells [.int .i64 c127_.gKind, .str c127_.gName, .int .i64 c127_.gNum, .sl (List.map GTerm.c c127_.gKids)] [])], []⟩ _ (by kernel_rfl) .nil ?_
      refine Wc.seq ?_
      refine Wc.region [] [] [1, 2] [2] [] ⟨[(1, (.v (.int .i64 (wr.i64 (b128_ - (c127_.gName.size : Int)))), [])), (2, (.ptr 2 0, []))], [(2, .cells [.int .i64 c127_.gKind, .str c127_.gName, .int .i64 c127_.gNum, .sl (List.map GTerm.c c127_.gKids)] [])], []⟩ _ (by kernel_rfl) .nil ?_
      refine Wc.seq ?_
      refine Wc.seq ?_
      refine Wc.region [] [] [1, 2, 11] [2] [] ⟨[(1, (.v (.int .i64 (wr.i64 (b128_ - (c127_.gName.size : Int)))), [])), (2, (.ptr 2 0, [])), (11, (.v (.bool (decide ((wr.i64 (b128_ - (c127_.gName.size : Int))) < 0))), []))], [(2, .cells [.int .i64 c127_.gKind, .str c127_.gName, .int .i64 c127_.gNum, .sl (List.map GTerm.c c127_.gKids)] [])], []⟩ _ (by kernel_rfl) .nil ?_
      rcases oif h with ⟨h123, h⟩ | ⟨h123, h⟩
      · refine Wc.condT h123 (by kernel_rfl) ?_
        refine Wc.seq ?_
        refine Wc.region [] [] [4] [] [] ⟨[(4, (.v (.int .i64 (-1)), []))], [], []⟩ _ (by kernel_rfl) .nil ?_
        refine Wc.ret ?_
        obtain rfl := Option.some.inj h
        exact ⟨.inl rfl, by kernel_rfl, by kernel_rfl⟩
      · refine Wc.condF h123 (by kernel_rfl) ?_
        refine Wc.fix (st' := ⟨[(1, (.v (.int .i64 (wr.i64 (b128_ - (c127_.gName.size : Int)))), [])), (2, (.ptr 2 0, []))], [(2, .cells [.int .i64 c127_.gKind, .str c127_.gName, .int .i64 c127_.gNum, .sl (List.map GTerm.c c127_.gKids)] [])], []⟩) [] [1, 2] [2] [] (by kernel_rfl) ?_
        refine Wc.skip ?_
        refine Wc.seq ?_
        obtain ⟨b129_, h124, h⟩ := obind h
        refine Wc.region [{}, {}, {}, { r := some (.v (.int .i64 b129_) []) }] [] [1] [] [] ⟨[(1, (.v (.int .i64 b129_), []))], [], []⟩ _ (by kernel_rfl) (.cons (ih_plaws_szTermS h124) .nil) ?_
        refine Wc.seq ?_
        refine Wc.seq ?_
        refine Wc.region [] [] [1, 17] [] [] ⟨[(1, (.v (.int .i64 b129_), [])), (17, (.v (.bool (decide (b129_ < 0))), []))], [], []⟩ _ (by kernel_rfl) .nil ?_
        rcases oif h with ⟨h125, h⟩ | ⟨h125, h⟩
        · refine Wc.condT h125 (by kernel_rfl) ?_
          refine Wc.seq ?_
          refine Wc.region [] [] [4] [] [] ⟨[(4, (.v (.int .i64 (-1)), []))], [], []⟩ _ (by kernel_rfl) .nil ?_
          refine Wc.ret ?_
          obtain rfl := Option.some.inj h
          exact ⟨.inl rfl, by kernel_rfl, by kernel_rfl⟩
        · refine Wc.condF h125 (by kernel_rfl) ?_
          refine Wc.fix (st' := ⟨[(1, (.v (.int .i64 b129_), []))], [], []⟩) [] [1] [] [] (by kernel_rfl) ?_
          refine Wc.skip ?_
          refine Wc.seq ?_
          refine Wc.region [] [] [4] [] [] ⟨[(4, (.v (.int .i64 b129_), []))], [], []⟩ _ (by kernel_rfl) .nil ?_
          refine Wc.ret ?_
          obtain rfl := Option.some.inj h
          exact ⟨.inl rfl, by kernel_rfl, by kernel_rfl⟩
    · intro a130_ b131_ r h
      rw [plaws_szTermS] at h
      refine FnO.of Try.func87 (rfl : Try.f87.body = some _) (Nat.le_of_ble_eq_true (by kernel_rfl)) (Nat.le_of_ble_eq_true (by kernel_rfl)) ?_
      intro w0 X0 Fin pv0 pb
      refine Wc.seq ?_
      refine Wc.region [] [] [0, 1] [] [] ⟨[(0, (.v (.sl (List.map GTerm.c a130_)), [])), (1, (.v (.int .i64 b131_), []))], [], []⟩ _ (by kernel_rfl) .nil ?_
      refine Wc.seq ?_
      refine Wc.region [{}, {}, { v := some (.int .i64 (a130_.length : Int)) }] [] [0, 1] [] [] ⟨[(0, (.v (.sl (List.map GTerm.c a130_)), [])), (1, (.v (.int .i64 (wr.i64 (b131_ - (a130_.length : Int)))), []))], [], []⟩ _ (by kernel_rfl) (.cons (len_obl GTerm.c a130_) .nil) ?_
      refine Wc.seq ?_
      refine Wc.seq ?_
      refine Wc.region [] [] [0, 1, 11] [] [] ⟨[(0, (.v (.sl (List.map GTerm.c a130_)), [])), (1, (.v (.int .i64 (wr.i64 (b131_ - (a130_.length : Int)))), [])), (11, (.v (.bool (decide ((wr.i64 (b131_ - (a130_.length : Int))) < 0))), []))], [], []⟩ _ (by kernel_rfl) .nil ?_
      rcases oif h with ⟨h126, h⟩ | ⟨h126, h⟩
      · refine Wc.condT h126 (by kernel_rfl) ?_
        refine Wc.seq ?_
        refine Wc.region [] [] [4] [] [] ⟨[(4, (.v (.int .i64 (-1)), []))], [], []⟩ _ (by kernel_rfl) .nil ?_
        refine Wc.ret ?_
        obtain rfl := Option.some.inj h
        exact ⟨.inl rfl, by kernel_rfl, by kernel_rfl⟩
      · refine Wc.condF h126 (by kernel_rfl) ?_
        refine Wc.fix (st' := ⟨[(0, (.v (.sl (List.map GTerm.c a130_)), [])), (1, (.v (.int .i64 (wr.i64 (b131_ - (a130_.length : Int)))), []))], [], []⟩) [] [0, 1] [] [] (by kernel_rfl) ?_
        refine Wc.skip ?_
        refine Wc.seq ?_
        refine Wc.seq ?_
        refine Wc.region [] [] [0, 1, 5] [] [] ⟨[(0, (.v (.sl (List.map GTerm.c a130_)), [])), (1, (.v (.int .i64 (wr.i64 (b131_ - (a130_.length : Int)))), [])), (5, (.v (.int .i64 0), []))], [], []⟩ _ (by kernel_rfl) .nil ?_
        obtain ⟨out1, h127, h⟩ := obind h
        refine Wc.lastJ (fun st => ∃ (b134_ : Int), out1 = .done b134_ ∧ st = ⟨[(1, (.v (.int .i64 b134_), []))], [], []⟩) ?_ ?_
        · refine Wc.block ?_
          refine Wc.loop (fun m st => ∃ (b132_ : Int) (b133_ : Int), st = ⟨[(0, (.v (.sl (List.map GTerm.c a130_)), [])), (1, (.v (.int .i64 b132_), [])), (5, (.v (.int .i64 b133_), []))], [], []⟩ ∧ plaws_szTermS_L1 k (plaws_szTerm k) (plaws_szTermS k) a130_ m b132_ b133_ = some out1) ?_ k ⟨_, _, rfl, h127⟩
          rintro m st ⟨b132_, b133_, rfl, h127⟩
          cases m with
          | zero => exact (onone h127).elim
          | succ m =>
            refine Wc.seq ?_
            refine Wc.seq ?_
            refine Wc.region [{}, {}, { v := some (.int .i64 (a130_.length : Int)) }] [] [0, 1, 5, 15] [] [] ⟨[(0, (.v (.sl (List.map GTerm.c a130_)), [])), (1, (.v (.int .i64 b132_), [])), (5, (.v (.int .i64 b133_), [])), (15, (.v (.bool (decide (b133_ < (a130_.length : Int)))), []))], [], []⟩ _ (by kernel_rfl) (.cons (len_obl GTerm.c a130_) .nil) ?_
            rcases oif h127 with ⟨h128, h127⟩ | ⟨h128, h127⟩
            · refine Wc.condT h128 (by kernel_rfl) ?_
              refine Wc.fix (st' := ⟨[(0, (.v (.sl (List.map GTerm.c a130_)), [])), (1, (.v (.int .i64 b132_), [])), (5, (.v (.int .i64 b133_), []))], [], []⟩) [] [0, 1, 5] [] [] (by kernel_rfl) ?_
              refine Wc.skip ?_
              refine Wc.seq ?_
              refine Wc.block ?_
              refine Wc.seq ?_
              obtain ⟨c135_, h129, h127⟩ := obind h127
              obtain ⟨b136_, h130, h127⟩ := obind h127
              refine Wc.region [{}, {}, { v := some (.vptr [.int .i64 c135_.gKind, .str c135_.gName, .int .i64 c135_.gNum, .sl (List.map GTerm.c c135_.gKids)]) }, {}, {}, { r := some (.v (.int .i64 b136_) []) }] [] [0, 1, 5] [] [] ⟨[(0, (.v (.sl (List.map GTerm.c a130_)), [])), (1, (.v (.int .i64 b136_), [])), (5, (.v (.int .i64 b133_), []))], [], []⟩ _ (by kernel_rfl) (.cons (at_obl (c := GTerm.c) (GTerm.c_eq c135_) GTerm.c_len h129) (.cons (len_ok 4 [.int .i64 c135_.gKind, .str c135_.gName, .int .i64 c135_.gNum, .sl (List.map GTerm.c c135_.gKids)]) (.cons (ih_plaws_szTerm h130) .nil))) ?_
              refine Wc.seq ?_
              refine Wc.region [] [] [0, 1, 5, 25] [] [] ⟨[(0, (.v (.sl (List.map GTerm.c a130_)), [])), (1, (.v (.int .i64 b136_), [])), (5, (.v (.int .i64 b133_), [])), (25, (.v (.bool (decide (b136_ < 0))), []))], [], []⟩ _ (by kernel_rfl) .nil ?_
              rcases oif h127 with ⟨h131, h127⟩ | ⟨h131, h127⟩
              · refine Wc.condT h131 (by kernel_rfl) ?_
                refine Wc.seq ?_
                refine Wc.region [] [] [4] [] [] ⟨[(4, (.v (.int .i64 (-1)), []))], [], []⟩ _ (by kernel_rfl) .nil ?_
                refine Wc.ret ?_
                obtain rfl := Option.some.inj h127
                obtain rfl := Option.some.inj h
                exact ⟨.inl rfl, by kernel_rfl, by kernel_rfl⟩
              · refine Wc.condF h131 (by kernel_rfl) ?_
                refine Wc.fix (st' := ⟨[(0, (.v (.sl (List.map GTerm.c a130_)), [])), (1, (.v (.int .i64 b136_), [])), (5, (.v (.int .i64 b133_), []))], [], []⟩) [] [0, 1, 5] [] [] (by kernel_rfl) ?_
                refine Wc.skip ?_
                refine Wc.region [] [] [0, 1, 5] [] [] ⟨[(0, (.v (.sl (List.map GTerm.c a130_)), [])), (1, (.v (.int .i64 b136_), [])), (5, (.v (.int .i64 (wr.i64 (b133_ + 1))), []))], [], []⟩ _ (by kernel_rfl) .nil ?_
                exact ⟨_, Nat.lt_succ_self _, _, _, rfl, h127⟩
            · refine Wc.condF h128 (by kernel_rfl) ?_
              refine Wc.fix (st' := ⟨[(1, (.v (.int .i64 b132_), []))], [], []⟩) [] [1] [] [] (by kernel_rfl) ?_
              refine Wc.exit ?_
              obtain rfl := Option.some.inj h127
              exact ⟨_, rfl, rfl⟩
        · rintro st ⟨b134_, rfl, rfl⟩
          refine Wc.seq ?_
          refine Wc.region [] [] [4] [] [] ⟨[(4, (.v (.int .i64 b134_), []))], [], []⟩ _ (by kernel_rfl) .nil ?_
          refine Wc.ret ?_
          obtain rfl := Option.some.inj h
          exact ⟨.inl rfl, by kernel_rfl, by kernel_rfl⟩
theorem claws_szTerm {k : Nat} {c127_ : GTerm} {b128_ : Int} {r : Int} (h : plaws_szTerm k c127_ b128_ = some r) : FnO Try.prog 34 [.v (.agg [.int .i64 c127_.gKind, .str c127_.gName, .int .i64 c127_.gNum, .sl (List.map GTerm.c c127_.gKids)]) [], .v (.int .i64 b128_) []] (.v (.int .i64 r) []) [] := (all_plaws_szTerm k).1 h
theorem claws_szTermS {k : Nat} {a130_ : List GTerm} {b131_ : Int} {r : Int} (h : plaws_szTermS k a130_ b131_ = some r) : FnO Try.prog 87 [.v (.sl (List.map GTerm.c a130_)) [], .v (.int .i64 b131_) []] (.v (.int .i64 r) []) [] := (all_plaws_szTerm k).2 h

/-- laws.szClause -/
def plaws_szClause (k : Nat) (e137_ : GClause) (b138_ : Int) : Option Int :=
  (plaws_szTerm k e137_.gHead b138_).bind fun b139_ =>
  if (decide (b139_ < 0)) = true then
    some (-1)
  else
    (plaws_szTerm k e137_.gBody b139_).bind fun b140_ =>
    if (decide (b140_ < 0)) = true then
      some (-1)
    else
      if (decide ((wr.i64 (b140_ - (e137_.gFile.size : Int))) < 0)) = true then
        some (-1)
      else
        some (wr.i64 (b140_ - (e137_.gFile.size : Int)))
theorem claws_szClause {k : Nat} {e137_ : GClause} {b138_ : Int} {r : Int} (h : plaws_szClause k e137_ b138_ = some r) : FnO Try.prog 25 [.v (.agg [.int .i64 e137_.gHead.gKind, .str e137_.gHead.gName, .int .i64 e137_.gHead.gNum, .sl (List.map GTerm.c e137_.gHead.gKids), .int .i64 e137_.gBody.gKind, .str e137_.gBody.gName, .int .i64 e137_.gBody.gNum, .sl (List.map GTerm.c e137_.gBody.gKids), .str e137_.gFile]) [], .v (.int .i64 b138_) []] (.v (.int .i64 r) []) [] := by
  refine FnO.of Try.func25 (rfl : Try.f25.body = some _) (Nat.le_of_ble_eq_true (by kernel_rfl)) (Nat.le_of_ble_eq_true (by kernel_rfl)) ?_
  intro w0 X0 Fin pv0 pb
  unfold plaws_szClause at h
  refine Wc.seq ?_
  refine Wc.region [] [] [1, 2] [2] [] ⟨[(1, (.v (.int .i64 b138_), [])), (2, (.ptr 2 0, []))], [(2, .cells [.int .i64 e137_.gHead.gKind, .str e137_.gHead.gName, .int .i64 e137_.gHead.gNum, .sl (List.map GTerm.c e137_.gHead.gKids), .int .i64 e137_.gBody.gKind, .str e137_.gBody.gName, .int .i64 e137_.gBody.gNum, .sl (List.map GTerm.c e137_.gBody.gKids), .str e137_.gFile] [])], []⟩ _ (by kernel_rfl) .nil ?_
  refine Wc.seq ?_
  obtain ⟨b139_, h132, h⟩ := obind h
  refine Wc.region [{}, {}, {}, { r := some (.v (.int .i64 b139_) []) }] [] [1, 2] [2] [] ⟨[(1, (.v (.int .i64 b139_), [])), (2, (.ptr 2 0, []))], [(2, .cells [.int .i64 e137_.gHead.gKind, .str e137_.gHead.gName, .int .i64 e137_.gHead.gNum, .sl (List.map GTerm.c e137_.gHead.gKids), .int .i64 e137_.gBody.gKind, .str e137_.gBody.gName, .int .i64 e137_.gBody.gNum, .sl (List.map GTerm.c e137_.gBody.gKids), .str e137_.gFile] [])], []⟩ _ (by kernel_rfl) (.cons (claws_szTerm h132) .nil) ?_
  refine Wc.seq ?_
  refine Wc.seq ?_
  refine Wc.region [] [] [1, 2, 10] [2] [] ⟨[(1, (.v (.int .i64 b139_), [])), (2, (.ptr 2 0, [])), (10, (.v (.bool (decide (b139_ < 0))), []))], [(2, .cells [.int .i64 e137_.gHead.gKind, .str e137_.gHead.gName, .int .i64 e137_.gHead.gNum, .sl (List.map GTerm.c e137_.gHead.gKids), .int .i64 e137_.gBody.gKind, .str e137_.gBody.gName, .int .i64 e137_.gBody.gNum, .sl (List.map GTerm.c e137_.gBody.gKids), .str e137_.gFile] [])], []⟩ _ (by kernel_rfl) .nil ?_
  rcases oif h with ⟨h133, h⟩ | ⟨h133, h⟩
  · refine Wc.condT h133 (by kernel_rfl) ?_
    refine Wc.seq ?_
    refine Wc.region [] [] [4] [] [] ⟨[(4, (.v (.int .i64 (-1)), []))], [], []⟩ _ (by kernel_rfl) .nil ?_
    refine Wc.ret ?_
    obtain rfl := Option.some.inj h
    exact ⟨.inl rfl, by kernel_rfl, by kernel_rfl⟩
  · refine Wc.condF h133 (by kernel_rfl) ?_
    refine Wc.fix (st' := ⟨[(1, (.v (.int .i64 b139_), [])), (2, (.ptr 2 0, []))], [(2, .cells [.int .i64 e137_.gHead.gKind, .str e137_.gHead.gName, .int .i64 e137_.gHead.gNum, .sl (List.map GTerm.c e137_.gHead.gKids), .int .i64 e137_.gBody.gKind, .str e137_.gBody.gName, .int .i64 e137_.gBody.gNum, .sl (List.map GTerm.c e137_.gBody.gKids), .str e137_.gFile] [])], []⟩) [] [1, 2] [2] [] (by kernel_rfl) ?_
    refine Wc.skip ?_
    refine Wc.seq ?_
    obtain ⟨b140_, h134, h⟩ := obind h
    refine Wc.region [{}, {}, {}, { r := some (.v (.int .i64 b140_) []) }] [] [1, 2] [2] [] ⟨[(1, (.v (.int .i64 b140_), [])), (2, (.ptr 2 0, []))], [(2, .cells [.int .i64 e137_.gHead.gKind, .str e137_.gHead.gName, .int .i64 e137_.gHead.gNum, .sl (List.map GTerm.c e137_.gHead.gKids), .int .i64 e137_.gBody.gKind, .str e137_.gBody.gName, .int .i64 e137_.gBody.gNum, .sl (List.map GTerm.c e137_.gBody.gKids), .str e137_.gFile] [])], []⟩ _ (by kernel_rfl) (.cons (claws_szTerm h134) .nil) ?_
    refine Wc.seq ?_
    refine Wc.seq ?_
    refine Wc.region [] [] [1, 2, 16] [2] [] ⟨[(1, (.v (.int .i64 b140_), [])), (2, (.ptr 2 0, [])), (16, (.v (.bool (decide (b140_ < 0))), []))], [(2, .cells [.int .i64 e137_.gHead.gKind, .str e137_.gHead.gName, .int .i64 e137_.gHead.gNum, .sl (List.map GTerm.c e137_.gHead.gKids), .int .i64 e137_.gBody.gKind, .str e137_.gBody.gName, .int .i64 e137_.gBody.gNum, .sl (List.map GTerm.c e137_.gBody.gKids), .str e137_.gFile] [])], []⟩ _ (by kernel_rfl) .nil ?_
    rcases oif h with ⟨h135, h⟩ | ⟨h135, h⟩
    · refine Wc.condT h135 (by kernel_rfl) ?_
      refine Wc.seq ?_
      refine Wc.region [] [] [4] [] [] ⟨[(4, (.v (.int .i64 (-1)), []))], [], []⟩ _ (by kernel_rfl) .nil ?_
      refine Wc.ret ?_
      obtain rfl := Option.some.inj h
      exact ⟨.inl rfl, by kernel_rfl, by kernel_rfl⟩
    · refine Wc.condF h135 (by kernel_rfl) ?_
      refine Wc.fix (st' := ⟨[(1, (.v (.int .i64 b140_), [])), (2, (.ptr 2 0, []))], [(2, .cells [.int .i64 e137_.gHead.gKind, .str e137_.gHead.gName, .int .i64 e137_.gHead.gNum, .sl (List.map GTerm.c e137_.gHead.gKids), .int .i64 e137_.gBody.gKind, .str e137_.gBody.gName, .int .i64 e137_.gBody.gNum, .sl (List.map GTerm.c e137_.gBody.gKids), .str e137_.gFile] [])], []⟩) [] [1, 2] [2] [] (by kernel_rfl) ?_
      refine Wc.skip ?_
      refine Wc.seq ?_
      refine Wc.region [] [] [1] [] [] ⟨[(1, (.v (.int .i64 (wr.i64 (b140_ - (e137_.gFile.size : Int)))), []))], [], []⟩ _ (by kernel_rfl) .nil ?_
      refine Wc.seq ?_
      refine Wc.seq ?_
      refine Wc.region [] [] [1, 23] [] [] ⟨[(1, (.v (.int .i64 (wr.i64 (b140_ - (e137_.gFile.size : Int)))), [])), (23, (.v (.bool (decide ((wr.i64 (b140_ - (e137_.gFile.size : Int))) < 0))), []))], [], []⟩ _ (by kernel_rfl) .nil ?_
      rcases oif h with ⟨h136, h⟩ | ⟨h136, h⟩
      · refine Wc.condT h136 (by kernel_rfl) ?_
        refine Wc.seq ?_
        refine Wc.region [] [] [4] [] [] ⟨[(4, (.v (.int .i64 (-1)), []))], [], []⟩ _ (by kernel_rfl) .nil ?_
        refine Wc.ret ?_
        obtain rfl := Option.some.inj h
        exact ⟨.inl rfl, by kernel_rfl, by kernel_rfl⟩
      · refine Wc.condF h136 (by kernel_rfl) ?_
        refine Wc.fix (st' := ⟨[(1, (.v (.int .i64 (wr.i64 (b140_ - (e137_.gFile.size : Int)))), []))], [], []⟩) [] [1] [] [] (by kernel_rfl) ?_
        refine Wc.skip ?_
        refine Wc.seq ?_
        refine Wc.region [] [] [4] [] [] ⟨[(4, (.v (.int .i64 (wr.i64 (b140_ - (e137_.gFile.size : Int)))), []))], [], []⟩ _ (by kernel_rfl) .nil ?_
        refine Wc.ret ?_
        obtain rfl := Option.some.inj h
        exact ⟨.inl rfl, by kernel_rfl, by kernel_rfl⟩

/-- laws.szIns -/
def plaws_szIns (k : Nat) (o141_ : GIns) (b142_ : Int) : Option Int :=
  if (decide ((wr.i64 (b142_ - (o141_.gName.size : Int))) < 0)) = true then
    some (-1)
  else
    some (wr.i64 (b142_ - (o141_.gName.size : Int)))
theorem claws_szIns {k : Nat} {o141_ : GIns} {b142_ : Int} {r : Int} (h : plaws_szIns k o141_ b142_ = some r) : FnO Try.prog 162 [.v (.agg [.int .i64 o141_.gOp, .str o141_.gName, .int .i64 o141_.gNum, .int .i64 o141_.gMany]) [], .v (.int .i64 b142_) []] (.v (.int .i64 r) []) [] := by
  refine FnO.of Try.func162 (rfl : Try.f162.body = some _) (Nat.le_of_ble_eq_true (by kernel_rfl)) (Nat.le_of_ble_eq_true (by kernel_rfl)) ?_
  intro w0 X0 Fin pv0 pb
  unfold plaws_szIns at h
  refine Wc.seq ?_
  refine Wc.region [] [] [1, 2] [2] [] ⟨[(1, (.v (.int .i64 b142_), [])), (2, (.ptr 2 0, []))], [(2, .cells [.int .i64 o141_.gOp, .str o141_.gName, .int .i64 o141_.gNum, .int .i64 o141_.gMany] [])], []⟩ _ (by kernel_rfl) .nil ?_
  refine Wc.seq ?_
  refine Wc.region [] [] [1] [] [] ⟨[(1, (.v (.int .i64 (wr.i64 (b142_ - (o141_.gName.size : Int)))), []))], [], []⟩ _ (by kernel_rfl) .nil ?_
  refine Wc.seq ?_
  refine Wc.seq ?_
  refine Wc.region [] [] [1, 11] [] [] ⟨[(1, (.v (.int .i64 (wr.i64 (b142_ - (o141_.gName.size : Int)))), [])), (11, (.v (.bool (decide ((wr.i64 (b142_ - (o141_.gName.size : Int))) < 0))), []))], [], []⟩ _ (by kernel_rfl) .nil ?_
  rcases oif h with ⟨h137, h⟩ | ⟨h137, h⟩
  · refine Wc.condT h137 (by kernel_rfl) ?_
    refine Wc.seq ?_
    refine Wc.region [] [] [4] [] [] ⟨[(4, (.v (.int .i64 (-1)), []))], [], []⟩ _ (by kernel_rfl) .nil ?_
    refine Wc.ret ?_
    obtain rfl := Option.some.inj h
    exact ⟨.inl rfl, by kernel_rfl, by kernel_rfl⟩
  · refine Wc.condF h137 (by kernel_rfl) ?_
    refine Wc.fix (st' := ⟨[(1, (.v (.int .i64 (wr.i64 (b142_ - (o141_.gName.size : Int)))), []))], [], []⟩) [] [1] [] [] (by kernel_rfl) ?_
    refine Wc.skip ?_
    refine Wc.seq ?_
    refine Wc.region [] [] [4] [] [] ⟨[(4, (.v (.int .i64 (wr.i64 (b142_ - (o141_.gName.size : Int)))), []))], [], []⟩ _ (by kernel_rfl) .nil ?_
    refine Wc.ret ?_
    obtain rfl := Option.some.inj h
    exact ⟨.inl rfl, by kernel_rfl, by kernel_rfl⟩

def plaws_szInsS_L1 (k : Nat) (p143_ : List GIns) : Nat → Int → Int → Option (Out Int Int)
  | 0, _, _ => none
  | m + 1, b145_, b146_ =>
    if (decide (b146_ < (p143_.length : Int))) = true then
      (at' p143_ b146_).bind fun o148_ =>
      (plaws_szIns k o148_ b145_).bind fun b149_ =>
      if (decide (b149_ < 0)) = true then
        some (.ret (-1))
      else
        plaws_szInsS_L1 k p143_ m b149_ (wr.i64 (b146_ + 1))
    else
      some (.done b145_)
/-- laws.szInsS -/
def plaws_szInsS (k : Nat) (p143_ : List GIns) (b144_ : Int) : Option Int :=
  if (decide ((wr.i64 (b144_ - (p143_.length : Int))) < 0)) = true then
    some (-1)
  else
    (plaws_szInsS_L1 k p143_ k (wr.i64 (b144_ - (p143_.length : Int))) 0).bind fun out1 => match out1 with
    | .ret r => some r
    | .done b147_ =>
      some b147_
theorem claws_szInsS {k : Nat} {p143_ : List GIns} {b144_ : Int} {r : Int} (h : plaws_szInsS k p143_ b144_ = some r) : FnO Try.prog 159 [.v (.sl (List.map GIns.c p143_)) [], .v (.int .i64 b144_) []] (.v (.int .i64 r) []) [] := by
  refine FnO.of Try.func159 (rfl : Try.f159.body = some _) (Nat.le_of_ble_eq_true (by kernel_rfl)) (Nat.le_of_ble_eq_true (by kernel_rfl)) ?_
  intro w0 X0 Fin pv0 pb
  unfold plaws_szInsS at h
  refine Wc.seq ?_
  refine Wc.region [] [] [0, 1] [] [] ⟨[(0, (.v (.sl (List.map GIns.c p143_)), [])), (1, (.v (.int .i64 b144_), []))], [], []⟩ _ (by kernel_rfl) .nil ?_
  refine Wc.seq ?_
  refine Wc.region [{}, {}, { v := some (.int .i64 (p143_.length : Int)) }] [] [0, 1] [] [] ⟨[(0, (.v (.sl (List.map GIns.c p143_)), [])), (1, (.v (.int .i64 (wr.i64 (b144_ - (p143_.length : Int)))), []))], [], []⟩ _ (by kernel_rfl) (.cons (len_obl GIns.c p143_) .nil) ?_
  refine Wc.seq ?_
  refine Wc.seq ?_
  refine Wc.region [] [] [0, 1, 11] [] [] ⟨[(0, (.v (.sl (List.map GIns.c p143_)), [])), (1, (.v (.int .i64 (wr.i64 (b144_ - (p143_.length : Int)))), [])), (11, (.v (.bool (decide ((wr.i64 (b144_ - (p143_.length : Int))) < 0))), []))], [], []⟩ _ (by kernel_rfl) .nil ?_
  rcases oif h with ⟨h138, h⟩ | ⟨h138, h⟩
  · refine Wc.condT h138 (by kernel_rfl) ?_
    refine Wc.seq ?_
    refine Wc.region [] [] [4] [] [] ⟨[(4, (.v (.int .i64 (-1)), []))], [], []⟩ _ (by kernel_rfl) .nil ?_
    refine Wc.ret ?_
    obtain rfl := Option.some.inj h
    exact ⟨.inl rfl, by kernel_rfl, by kernel_rfl⟩
  · refine Wc.condF h138 (by kernel_rfl) ?_
    refine Wc.fix (st' := ⟨[(0, (.v (.sl (List.map GIns.c p143_)), [])), (1, (.v (.int .i64 (wr.i64 (b144_ - (p143_.length : Int)))), []))], [], []⟩) [] [0, 1] [] [] (by kernel_rfl) ?_
    refine Wc.skip ?_
    refine Wc.seq ?_
    refine Wc.seq ?_
    refine Wc.region [] [] [0, 1, 5] [] [] ⟨[(0, (.v (.sl (List.map GIns.c p143_)), [])), (1, (.v (.int .i64 (wr.i64 (b144_ - (p143_.length : Int)))), [])), (5, (.v (.int .i64 0), []))], [], []⟩ _ (by kernel_rfl) .nil ?_
    obtain ⟨out1, h139, h⟩ := obind h
    refine Wc.lastJ (fun st => ∃ (b147_ : Int), out1 = .done b147_ ∧ st = ⟨[(1, (.v (.int .i64 b147_), []))], [], []⟩) ?_ ?_
    · refine Wc.block ?_
      refine Wc.loop (fun m st => ∃ (b145_ : Int) (b146_ : Int), st = ⟨[(0, (.v (.sl (List.map GIns.c p143_)), [])), (1, (.v (.int .i64 b145_), [])), (5, (.v (.int .i64 b146_), []))], [], []⟩ ∧ plaws_szInsS_L1 k p143_ m b145_ b146_ = some out1) ?_ k ⟨_, _, rfl, h139⟩
      rintro m st ⟨b145_, b146_, rfl, h139⟩
      cases m with
      | zero => exact (onone h139).elim
      | succ m =>
        refine Wc.seq ?_
        refine Wc.seq ?_
        refine Wc.region [{}, {}, { v := some (.int .i64 (p143_.length : Int)) }] [] [0, 1, 5, 15] [] [] ⟨[(0, (.v (.sl (List.map GIns.c p143_)), [])), (1, (.v (.int .i64 b145_), [])), (5, (.v (.int .i64 b146_), [])), (15, (.v (.bool (decide (b146_ < (p143_.length : Int)))), []))], [], []⟩ _ (by kernel_rfl) (.cons (len_obl GIns.c p143_) .nil) ?_
        rcases oif h139 with ⟨h140, h139⟩ | ⟨h140, h139⟩
        · refine Wc.condT h140 (by kernel_rfl) ?_
          refine Wc.fix (st' := ⟨[(0, (.v (.sl (List.map GIns.c p143_)), [])), (1, (.v (.int .i64 b145_), [])), (5, (.v (.int .i64 b146_), []))], [], []⟩) [] [0, 1, 5] [] [] (by kernel_rfl) ?_
          refine Wc.skip ?_
          refine Wc.seq ?_
          refine Wc.block ?_
          refine Wc.seq ?_
          obtain ⟨o148_, h141, h139⟩ := obind h139
          obtain ⟨b149_, h142, h139⟩ := obind h139
          refine Wc.region [{}, {}, { v := some (.vptr [.int .i64 o148_.gOp, .str o148_.gName, .int .i64 o148_.gNum, .int .i64 o148_.gMany]) }, {}, {}, { r := some (.v (.int .i64 b149_) []) }] [] [0, 1, 5] [] [] ⟨[(0, (.v (.sl (List.map GIns.c p143_)), [])), (1, (.v (.int .i64 b149_), [])), (5, (.v (.int .i64 b146_), []))], [], []⟩ _ (by kernel_rfl) (.cons (at_obl (c := GIns.c) (GIns.c_eq o148_) GIns.c_len h141) (.cons (len_ok 4 [.int .i64 o148_.gOp, .str o148_.gName, .int .i64 o148_.gNum, .int .i64 o148_.gMany]) (.cons (claws_szIns h142) .nil))) ?_
          refine Wc.seq ?_
          refine Wc.region [] [] [0, 1, 5, 25] [] [] ⟨[(0, (.v (.sl (List.map GIns.c p143_)), [])), (1, (.v (.int .i64 b149_), [])), (5, (.v (.int .i64 b146_), [])), (25, (.v (.bool (decide (b149_ < 0))), []))], [], []⟩ _ (by kernel_rfl) .nil ?_
          rcases oif h139 with ⟨h143, h139⟩ | ⟨h143, h139⟩
          · refine Wc.condT h143 (by kernel_rfl) ?_
            refine Wc.seq ?_
            refine Wc.region [] [] [4] [] [] ⟨[(4, (.v (.int .i64 (-1)), []))], [], []⟩ _ (by kernel_rfl) .nil ?_
            refine Wc.ret ?_
            obtain rfl := Option.some.inj h139
            obtain rfl := Option.some.inj h
            exact ⟨.inl rfl, by kernel_rfl, by kernel_rfl⟩
          · refine Wc.condF h143 (by kernel_rfl) ?_
            refine Wc.fix (st' := ⟨[(0, (.v (.sl (List.map GIns.c p143_)), [])), (1, (.v (.int .i64 b149_), [])), (5, (.v (.int .i64 b146_), []))], [], []⟩) [] [0, 1, 5] [] [] (by kernel_rfl) ?_
            refine Wc.skip ?_
            refine Wc.region [] [] [0, 1, 5] [] [] ⟨[(0, (.v (.sl (List.map GIns.c p143_)), [])), (1, (.v (.int .i64 b149_), [])), (5, (.v (.int .i64 (wr.i64 (b146_ + 1))), []))], [], []⟩ _ (by kernel_rfl) .nil ?_
            exact ⟨_, Nat.lt_succ_self _, _, _, rfl, h139⟩
        · refine Wc.condF h140 (by kernel_rfl) ?_
          refine Wc.fix (st' := ⟨[(1, (.v (.int .i64 b145_), []))], [], []⟩) [] [1] [] [] (by kernel_rfl) ?_
          refine Wc.exit ?_
          obtain rfl := Option.some.inj h139
          exact ⟨_, rfl, rfl⟩
    · rintro st ⟨b147_, rfl, rfl⟩
      refine Wc.seq ?_
      refine Wc.region [] [] [4] [] [] ⟨[(4, (.v (.int .i64 b147_), []))], [], []⟩ _ (by kernel_rfl) .nil ?_
      refine Wc.ret ?_
      obtain rfl := Option.some.inj h
      exact ⟨.inl rfl, by kernel_rfl, by kernel_rfl⟩

/-- laws.szCode -/
def plaws_szCode (k : Nat) (q150_ : GCode) (b151_ : Int) : Option Int :=
  (plaws_szInsS k q150_.gHead b151_).bind fun b152_ =>
  if (decide (b152_ < 0)) = true then
    some (-1)
  else
    (plaws_szInsS k q150_.gBody b152_).bind fun b153_ =>
    if (decide (b153_ < 0)) = true then
      some (-1)
    else
      some b153_
theorem claws_szCode {k : Nat} {q150_ : GCode} {b151_ : Int} {r : Int} (h : plaws_szCode k q150_ b151_ = some r) : FnO Try.prog 151 [.v (.agg [.sl (List.map GIns.c q150_.gHead), .sl (List.map GIns.c q150_.gBody), .int .i64 q150_.gVars]) [], .v (.int .i64 b151_) []] (.v (.int .i64 r) []) [] := by
  refine FnO.of Try.func151 (rfl : Try.f151.body = some _) (Nat.le_of_ble_eq_true (by kernel_rfl)) (Nat.le_of_ble_eq_true (by kernel_rfl)) ?_
  intro w0 X0 Fin pv0 pb
  unfold plaws_szCode at h
  refine Wc.seq ?_
  refine Wc.region [] [] [1, 2] [2] [] ⟨[(1, (.v (.int .i64 b151_), [])), (2, (.ptr 2 0, []))], [(2, .cells [.sl (List.map GIns.c q150_.gHead), .sl (List.map GIns.c q150_.gBody), .int .i64 q150_.gVars] [])], []⟩ _ (by kernel_rfl) .nil ?_
  refine Wc.seq ?_
  obtain ⟨b152_, h144, h⟩ := obind h
  refine Wc.region [{}, {}, {}, { r := some (.v (.int .i64 b152_) []) }] [] [1, 2] [2] [] ⟨[(1, (.v (.int .i64 b152_), [])), (2, (.ptr 2 0, []))], [(2, .cells [.sl (List.map GIns.c q150_.gHead), .sl (List.map GIns.c q150_.gBody), .int .i64 q150_.gVars] [])], []⟩ _ (by kernel_rfl) (.cons (claws_szInsS h144) .nil) ?_
  refine Wc.seq ?_
  refine Wc.seq ?_
  refine Wc.region [] [] [1, 2, 10] [2] [] ⟨[(1, (.v (.int .i64 b152_), [])), (2, (.ptr 2 0, [])), (10, (.v (.bool (decide (b152_ < 0))), []))], [(2, .cells [.sl (List.map GIns.c q150_.gHead), .sl (List.map GIns.c q150_.gBody), .int .i64 q150_.gVars] [])], []⟩ _ (by kernel_rfl) .nil ?_
  rcases oif h with ⟨h145, h⟩ | ⟨h145, h⟩
  · refine Wc.condT h145 (by kernel_rfl) ?_
    refine Wc.seq ?_
    refine Wc.region [] [] [4] [] [] ⟨[(4, (.v (.int .i64 (-1)), []))], [], []⟩ _ (by kernel_rfl) .nil ?_
    refine Wc.ret ?_
    obtain rfl := Option.some.inj h
    exact ⟨.inl rfl, by kernel_rfl, by kernel_rfl⟩
  · refine Wc.condF h145 (by kernel_rfl) ?_
    refine Wc.fix (st' := ⟨[(1, (.v (.int .i64 b152_), [])), (2, (.ptr 2 0, []))], [(2, .cells [.sl (List.map GIns.c q150_.gHead), .sl (List.map GIns.c q150_.gBody), .int .i64 q150_.gVars] [])], []⟩) [] [1, 2] [2] [] (by kernel_rfl) ?_
    refine Wc.skip ?_
    refine Wc.seq ?_
    obtain ⟨b153_, h146, h⟩ := obind h
    refine Wc.region [{}, {}, {}, { r := some (.v (.int .i64 b153_) []) }] [] [1] [] [] ⟨[(1, (.v (.int .i64 b153_), []))], [], []⟩ _ (by kernel_rfl) (.cons (claws_szInsS h146) .nil) ?_
    refine Wc.seq ?_
    refine Wc.seq ?_
    refine Wc.region [] [] [1, 16] [] [] ⟨[(1, (.v (.int .i64 b153_), [])), (16, (.v (.bool (decide (b153_ < 0))), []))], [], []⟩ _ (by kernel_rfl) .nil ?_
    rcases oif h with ⟨h147, h⟩ | ⟨h147, h⟩
    · refine Wc.condT h147 (by kernel_rfl) ?_
      refine Wc.seq ?_
      refine Wc.region [] [] [4] [] [] ⟨[(4, (.v (.int .i64 (-1)), []))], [], []⟩ _ (by kernel_rfl) .nil ?_
      refine Wc.ret ?_
      obtain rfl := Option.some.inj h
      exact ⟨.inl rfl, by kernel_rfl, by kernel_rfl⟩
    · refine Wc.condF h147 (by kernel_rfl) ?_
      refine Wc.fix (st' := ⟨[(1, (.v (.int .i64 b153_), []))], [], []⟩) [] [1] [] [] (by kernel_rfl) ?_
      refine Wc.skip ?_
      refine Wc.seq ?_
      refine Wc.region [] [] [4] [] [] ⟨[(4, (.v (.int .i64 b153_), []))], [], []⟩ _ (by kernel_rfl) .nil ?_
      refine Wc.ret ?_
      obtain rfl := Option.some.inj h
      exact ⟨.inl rfl, by kernel_rfl, by kernel_rfl⟩

/-- laws.szKept -/
def plaws_szKept (k : Nat) (r154_ : GKept) (b155_ : Int) : Option Int :=
  (plaws_szClause k r154_.gClause b155_).bind fun b156_ =>
  if (decide (b156_ < 0)) = true then
    some (-1)
  else
    (plaws_szCode k r154_.gCode b156_).bind fun b157_ =>
    if (decide (b157_ < 0)) = true then
      some (-1)
    else
      some b157_
theorem claws_szKept {k : Nat} {r154_ : GKept} {b155_ : Int} {r : Int} (h : plaws_szKept k r154_ b155_ = some r) : FnO Try.prog 134 [.v (.agg [.int .i64 r154_.gClause.gHead.gKind, .str r154_.gClause.gHead.gName, .int .i64 r154_.gClause.gHead.gNum, .sl (List.map GTerm.c r154_.gClause.gHead.gKids), .int .i64 r154_.gClause.gBody.gKind, .str r154_.gClause.gBody.gName, .int .i64 r154_.gClause.gBody.gNum, .sl (List.map GTerm.c r154_.gClause.gBody.gKids), .str r154_.gClause.gFile, .sl (List.map GIns.c r154_.gCode.gHead), .sl (List.map GIns.c r154_.gCode.gBody), .int .i64 r154_.gCode.gVars, .int .i64 r154_.gBorn, .int .i64 r154_.gDied]) [], .v (.int .i64 b155_) []] (.v (.int .i64 r) []) [] := by
  refine FnO.of Try.func134 (rfl : Try.f134.body = some _) (Nat.le_of_ble_eq_true (by kernel_rfl)) (Nat.le_of_ble_eq_true (by kernel_rfl)) ?_
  intro w0 X0 Fin pv0 pb
  unfold plaws_szKept at h
  refine Wc.seq ?_
  refine Wc.region [] [] [1, 2] [2] [] ⟨[(1, (.v (.int .i64 b155_), [])), (2, (.ptr 2 0, []))], [(2, .cells [.int .i64 r154_.gClause.gHead.gKind, .str r154_.gClause.gHead.gName, .int .i64 r154_.gClause.gHead.gNum, .sl (List.map GTerm.c r154_.gClause.gHead.gKids), .int .i64 r154_.gClause.gBody.gKind, .str r154_.gClause.gBody.gName, .int .i64 r154_.gClause.gBody.gNum, .sl (List.map GTerm.c r154_.gClause.gBody.gKids), .str r154_.gClause.gFile, .sl (List.map GIns.c r154_.gCode.gHead), .sl (List.map GIns.c r154_.gCode.gBody), .int .i64 r154_.gCode.gVars, .int .i64 r154_.gBorn, .int .i64 r154_.gDied] [])], []⟩ _ (by kernel_rfl) .nil ?_
  refine Wc.seq ?_
  obtain ⟨b156_, h148, h⟩ := obind h
  refine Wc.region [{}, {}, {}, { r := some (.v (.int .i64 b156_) []) }] [] [1, 2] [2] [] ⟨[(1, (.v (.int .i64 b156_), [])), (2, (.ptr 2 0, []))], [(2, .cells [.int .i64 r154_.gClause.gHead.gKind, .str r154_.gClause.gHead.gName, .int .i64 r154_.gClause.gHead.gNum, .sl (List.map GTerm.c r154_.gClause.gHead.gKids), .int .i64 r154_.gClause.gBody.gKind, .str r154_.gClause.gBody.gName, .int .i64 r154_.gClause.gBody.gNum, .sl (List.map GTerm.c r154_.gClause.gBody.gKids), .str r154_.gClause.gFile, .sl (List.map GIns.c r154_.gCode.gHead), .sl (List.map GIns.c r154_.gCode.gBody), .int .i64 r154_.gCode.gVars, .int .i64 r154_.gBorn, .int .i64 r154_.gDied] [])], []⟩ _ (by kernel_rfl) (.cons (claws_szClause h148) .nil) ?_
  refine Wc.seq ?_
  refine Wc.seq ?_
  refine Wc.region [] [] [1, 2, 10] [2] [] ⟨[(1, (.v (.int .i64 b156_), [])), (2, (.ptr 2 0, [])), (10, (.v (.bool (decide (b156_ < 0))), []))], [(2, .cells [.int .i64 r154_.gClause.gHead.gKind, .str r154_.gClause.gHead.gName, .int .i64 r154_.gClause.gHead.gNum, .sl (List.map GTerm.c r154_.gClause.gHead.gKids), .int .i64 r154_.gClause.gBody.gKind, .str r154_.gClause.gBody.gName, .int .i64 r154_.gClause.gBody.gNum, .sl (List.map GTerm.c r154_.gClause.gBody.gKids), .str r154_.gClause.gFile, .sl (List.map GIns.c r154_.gCode.gHead), .sl (List.map GIns.c r154_.gCode.gBody), .int .i64 r154_.gCode.gVars, .int .i64 r154_.gBorn, .int .i64 r154_.gDied] [])], []⟩ _ (by kernel_rfl) .nil ?_
  rcases oif h with ⟨h149, h⟩ | ⟨h149, h⟩
  · refine Wc.condT h149 (by kernel_rfl) ?_
    refine Wc.seq ?_
    refine Wc.region [] [] [4] [] [] ⟨[(4, (.v (.int .i64 (-1)), []))], [], []⟩ _ (by kernel_rfl) .nil ?_
    refine Wc.ret ?_
    obtain rfl := Option.some.inj h
    exact ⟨.inl rfl, by kernel_rfl, by kernel_rfl⟩
  · refine Wc.condF h149 (by kernel_rfl) ?_
    refine Wc.fix (st' := ⟨[(1, (.v (.int .i64 b156_), [])), (2, (.ptr 2 0, []))], [(2, .cells [.int .i64 r154_.gClause.gHead.gKind, .str r154_.gClause.gHead.gName, .int .i64 r154_.gClause.gHead.gNum, .sl (List.map GTerm.c r154_.gClause.gHead.gKids), .int .i64 r154_.gClause.gBody.gKind, .str r154_.gClause.gBody.gName, .int .i64 r154_.gClause.gBody.gNum, .sl (List.map GTerm.c r154_.gClause.gBody.gKids), .str r154_.gClause.gFile, .sl (List.map GIns.c r154_.gCode.gHead), .sl (List.map GIns.c r154_.gCode.gBody), .int .i64 r154_.gCode.gVars, .int .i64 r154_.gBorn, .int .i64 r154_.gDied] [])], []⟩) [] [1, 2] [2] [] (by kernel_rfl) ?_
    refine Wc.skip ?_
    refine Wc.seq ?_
    obtain ⟨b157_, h150, h⟩ := obind h
    refine Wc.region [{}, {}, {}, { r := some (.v (.int .i64 b157_) []) }] [] [1] [] [] ⟨[(1, (.v (.int .i64 b157_), []))], [], []⟩ _ (by kernel_rfl) (.cons (claws_szCode h150) .nil) ?_
    refine Wc.seq ?_
    refine Wc.seq ?_
    refine Wc.region [] [] [1, 16] [] [] ⟨[(1, (.v (.int .i64 b157_), [])), (16, (.v (.bool (decide (b157_ < 0))), []))], [], []⟩ _ (by kernel_rfl) .nil ?_
    rcases oif h with ⟨h151, h⟩ | ⟨h151, h⟩
    · refine Wc.condT h151 (by kernel_rfl) ?_
      refine Wc.seq ?_
      refine Wc.region [] [] [4] [] [] ⟨[(4, (.v (.int .i64 (-1)), []))], [], []⟩ _ (by kernel_rfl) .nil ?_
      refine Wc.ret ?_
      obtain rfl := Option.some.inj h
      exact ⟨.inl rfl, by kernel_rfl, by kernel_rfl⟩
    · refine Wc.condF h151 (by kernel_rfl) ?_
      refine Wc.fix (st' := ⟨[(1, (.v (.int .i64 b157_), []))], [], []⟩) [] [1] [] [] (by kernel_rfl) ?_
      refine Wc.skip ?_
      refine Wc.seq ?_
      refine Wc.region [] [] [4] [] [] ⟨[(4, (.v (.int .i64 b157_), []))], [], []⟩ _ (by kernel_rfl) .nil ?_
      refine Wc.ret ?_
      obtain rfl := Option.some.inj h
      exact ⟨.inl rfl, by kernel_rfl, by kernel_rfl⟩

def plaws_szKeptS_L1 (k : Nat) (s158_ : List GKept) : Nat → Int → Int → Option (Out Int Int)
  | 0, _, _ => none
  | m + 1, b160_, b161_ =>
    if (decide (b161_ < (s158_.length : Int))) = true then
      (at' s158_ b161_).bind fun r163_ =>
      (plaws_szKept k r163_ b160_).bind fun b164_ =>
      if (decide (b164_ < 0)) = true then
        some (.ret (-1))
      else
        plaws_szKeptS_L1 k s158_ m b164_ (wr.i64 (b161_ + 1))
    else
      some (.done b160_)
/-- laws.szKeptS -/
def plaws_szKeptS (k : Nat) (s158_ : List GKept) (b159_ : Int) : Option Int :=
  if (decide ((wr.i64 (b159_ - (s158_.length : Int))) < 0)) = true then
    some (-1)
  else
    (plaws_szKeptS_L1 k s158_ k (wr.i64 (b159_ - (s158_.length : Int))) 0).bind fun out1 => match out1 with
    | .ret r => some r
    | .done b162_ =>
      some b162_
theorem claws_szKeptS {k : Nat} {s158_ : List GKept} {b159_ : Int} {r : Int} (h : plaws_szKeptS k s158_ b159_ = some r) : FnO Try.prog 95 [.v (.sl (List.map GKept.c s158_)) [], .v (.int .i64 b159_) []] (.v (.int .i64 r) []) [] := by
  refine FnO.of Try.func95 (rfl : Try.f95.body = some _) (Nat.le_of_ble_eq_true (by kernel_rfl)) (Nat.le_of_ble_eq_true (by kernel_rfl)) ?_
  intro w0 X0 Fin pv0 pb
  unfold plaws_szKeptS at h
  refine Wc.seq ?_
  refine Wc.region [] [] [0, 1] [] [] ⟨[(0, (.v (.sl (List.map GKept.c s158_)), [])), (1, (.v (.int .i64 b159_), []))], [], []⟩ _ (by kernel_rfl) .nil ?_
  refine Wc.seq ?_
  refine Wc.region [{}, {}, { v := some (.int .i64 (s158_.length : Int)) }] [] [0, 1] [] [] ⟨[(0, (.v (.sl (List.map GKept.c s158_)), [])), (1, (.v (.int .i64 (wr.i64 (b159_ - (s158_.length : Int)))), []))], [], []⟩ _ (by kernel_rfl) (.cons (len_obl GKept.c s158_) .nil) ?_
  refine Wc.seq ?_
  refine Wc.seq ?_
  refine Wc.region [] [] [0, 1, 11] [] [] ⟨[(0, (.v (.sl (List.map GKept.c s158_)), [])), (1, (.v (.int .i64 (wr.i64 (b159_ - (s158_.length : Int)))), [])), (11, (.v (.bool (decide ((wr.i64 (b159_ - (s158_.length : Int))) < 0))), []))], [], []⟩ _ (by kernel_rfl) .nil ?_
  rcases oif h with ⟨h152, h⟩ | ⟨h152, h⟩
  · refine Wc.condT h152 (by kernel_rfl) ?_
    refine Wc.seq ?_
    refine Wc.region [] [] [4] [] [] ⟨[(4, (.v (.int .i64 (-1)), []))], [], []⟩ _ (by kernel_rfl) .nil ?_
    refine Wc.ret ?_
    obtain rfl := Option.some.inj h
    exact ⟨.inl rfl, by kernel_rfl, by kernel_rfl⟩
  · refine Wc.condF h152 (by kernel_rfl) ?_
    refine Wc.fix (st' := ⟨[(0, (.v (.sl (List.map GKept.c s158_)), [])), (1, (.v (.int .i64 (wr.i64 (b159_ - (s158_.length : Int)))), []))], [], []⟩) [] [0, 1] [] [] (by kernel_rfl) ?_
    refine Wc.skip ?_
    refine Wc.seq ?_
    refine Wc.seq ?_
    refine Wc.region [] [] [0, 1, 5] [] [] ⟨[(0, (.v (.sl (List.map GKept.c s158_)), [])), (1, (.v (.int .i64 (wr.i64 (b159_ - (s158_.length : Int)))), [])), (5, (.v (.int .i64 0), []))], [], []⟩ _ (by kernel_rfl) .nil ?_
    obtain ⟨out1, h153, h⟩ := obind h
    refine Wc.lastJ (fun st => ∃ (b162_ : Int), out1 = .done b162_ ∧ st = ⟨[(1, (.v (.int .i64 b162_), []))], [], []⟩) ?_ ?_
    · refine Wc.block ?_
      refine Wc.loop (fun m st => ∃ (b160_ : Int) (b161_ : Int), st = ⟨[(0, (.v (.sl (List.map GKept.c s158_)), [])), (1, (.v (.int .i64 b160_), [])), (5, (.v (.int .i64 b161_), []))], [], []⟩ ∧ plaws_szKeptS_L1 k s158_ m b160_ b161_ = some out1) ?_ k ⟨_, _, rfl, h153⟩
      rintro m st ⟨b160_, b161_, rfl, h153⟩
      cases m with
      | zero => exact (onone h153).elim
      | succ m =>
        refine Wc.seq ?_
        refine Wc.seq ?_
        refine Wc.region [{}, {}, { v := some (.int .i64 (s158_.length : Int)) }] [] [0, 1, 5, 15] [] [] ⟨[(0, (.v (.sl (List.map GKept.c s158_)), [])), (1, (.v (.int .i64 b160_), [])), (5, (.v (.int .i64 b161_), [])), (15, (.v (.bool (decide (b161_ < (s158_.length : Int)))), []))], [], []⟩ _ (by kernel_rfl) (.cons (len_obl GKept.c s158_) .nil) ?_
        rcases oif h153 with ⟨h154, h153⟩ | ⟨h154, h153⟩
        · refine Wc.condT h154 (by kernel_rfl) ?_
          refine Wc.fix (st' := ⟨[(0, (.v (.sl (List.map GKept.c s158_)), [])), (1, (.v (.int .i64 b160_), [])), (5, (.v (.int .i64 b161_), []))], [], []⟩) [] [0, 1, 5] [] [] (by kernel_rfl) ?_
          refine Wc.skip ?_
          refine Wc.seq ?_
          refine Wc.block ?_
          refine Wc.seq ?_
          obtain ⟨r163_, h155, h153⟩ := obind h153
          obtain ⟨b164_, h156, h153⟩ := obind h153
          refine Wc.region [{}, {}, { v := some (.vptr [.int .i64 r163_.gClause.gHead.gKind, .str r163_.gClause.gHead.gName, .int .i64 r163_.gClause.gHead.gNum, .sl (List.map GTerm.c r163_.gClause.gHead.gKids), .int .i64 r163_.gClause.gBody.gKind, .str r163_.gClause.gBody.gName, .int .i64 r163_.gClause.gBody.gNum, .sl (List.map GTerm.c r163_.gClause.gBody.gKids), .str r163_.gClause.gFile, .sl (List.map GIns.c r163_.gCode.gHead), .sl (List.map GIns.c r163_.gCode.gBody), .int .i64 r163_.gCode.gVars, .int .i64 r163_.gBorn, .int .i64 r163_.gDied]) }, {}, {}, { r := some (.v (.int .i64 b164_) []) }] [] [0, 1, 5] [] [] ⟨[(0, (.v (.sl (List.map GKept.c s158_)), [])), (1, (.v (.int .i64 b164_), [])), (5, (.v (.int .i64 b161_), []))], [], []⟩ _ (by kernel_rfl) (.cons (at_obl (c := GKept.c) (GKept.c_eq r163_) GKept.c_len h155) (.cons (len_ok 14 [.int .i64 r163_.gClause.gHead.gKind, .str r163_.gClause.gHead.gName, .int .i64 r163_.gClause.gHead.gNum, .sl (List.map GTerm.c r163_.gClause.gHead.gKids), .int .i64 r163_.gClause.gBody.gKind, .str r163_.gClause.gBody.gName, .int .i64 r163_.gClause.gBody.gNum, .sl (List.map GTerm.c r163_.gClause.gBody.gKids), .str r163_.gClause.gFile, .sl (List.map GIns.c r163_.gCode.gHead), .sl (List.map GIns.c r163_.gCode.gBody), .int .i64 r163_.gCode.gVars, .int .i64 r163_.gBorn, .int .i64 r163_.gDied]) (.cons (claws_szKept h156) .nil))) ?_
          refine Wc.seq ?_
          refine Wc.region [] [] [0, 1, 5, 25] [] [] ⟨[(0, (.v (.sl (List.map GKept.c s158_)), [])), (1, (.v (.int .i64 b164_), [])), (5, (.v (.int .i64 b161_), [])), (25, (.v (.bool (decide (b164_ < 0))), []))], [], []⟩ _ (by kernel_rfl) .nil ?_
          rcases oif h153 with ⟨h157, h153⟩ | ⟨h157, h153⟩
          · refine Wc.condT h157 (by kernel_rfl) ?_
            refine Wc.seq ?_
            refine Wc.region [] [] [4] [] [] ⟨[(4, (.v (.int .i64 (-1)), []))], [], []⟩ _ (by kernel_rfl) .nil ?_
            refine Wc.ret ?_
            obtain rfl := Option.some.inj h153
            obtain rfl := Option.some.inj h
            exact ⟨.inl rfl, by kernel_rfl, by kernel_rfl⟩
          · refine Wc.condF h157 (by kernel_rfl) ?_
            refine Wc.fix (st' := ⟨[(0, (.v (.sl (List.map GKept.c s158_)), [])), (1, (.v (.int .i64 b164_), [])), (5, (.v (.int .i64 b161_), []))], [], []⟩) [] [0, 1, 5] [] [] (by kernel_rfl) ?_
            refine Wc.skip ?_
            refine Wc.region [] [] [0, 1, 5] [] [] ⟨[(0, (.v (.sl (List.map GKept.c s158_)), [])), (1, (.v (.int .i64 b164_), [])), (5, (.v (.int .i64 (wr.i64 (b161_ + 1))), []))], [], []⟩ _ (by kernel_rfl) .nil ?_
            exact ⟨_, Nat.lt_succ_self _, _, _, rfl, h153⟩
        · refine Wc.condF h154 (by kernel_rfl) ?_
          refine Wc.fix (st' := ⟨[(1, (.v (.int .i64 b160_), []))], [], []⟩) [] [1] [] [] (by kernel_rfl) ?_
          refine Wc.exit ?_
          obtain rfl := Option.some.inj h153
          exact ⟨_, rfl, rfl⟩
    · rintro st ⟨b162_, rfl, rfl⟩
      refine Wc.seq ?_
      refine Wc.region [] [] [4] [] [] ⟨[(4, (.v (.int .i64 b162_), []))], [], []⟩ _ (by kernel_rfl) .nil ?_
      refine Wc.ret ?_
      obtain rfl := Option.some.inj h
      exact ⟨.inl rfl, by kernel_rfl, by kernel_rfl⟩

/-- laws.szStore -/
def plaws_szStore (k : Nat) (t165_ : GStore) (b166_ : Int) : Option Int :=
  (plaws_szKeptS k t165_.gList b166_).bind fun b167_ =>
  if (decide (b167_ < 0)) = true then
    some (-1)
  else
    (plaws_szStringS k t165_.gOpen b167_).bind fun b168_ =>
    if (decide (b168_ < 0)) = true then
      some (-1)
    else
      some b168_
theorem claws_szStore {k : Nat} {t165_ : GStore} {b166_ : Int} {r : Int} (h : plaws_szStore k t165_ b166_ = some r) : FnO Try.prog 39 [.v (.agg [.sl (List.map GKept.c t165_.gList), .sl (List.map cS t165_.gOpen), .int .i64 t165_.gNow]) [], .v (.int .i64 b166_) []] (.v (.int .i64 r) []) [] := by
  refine FnO.of Try.func39 (rfl : Try.f39.body = some _) (Nat.le_of_ble_eq_true (by kernel_rfl)) (Nat.le_of_ble_eq_true (by kernel_rfl)) ?_
  intro w0 X0 Fin pv0 pb
  unfold plaws_szStore at h
  refine Wc.seq ?_
  refine Wc.region [] [] [1, 2] [2] [] ⟨[(1, (.v (.int .i64 b166_), [])), (2, (.ptr 2 0, []))], [(2, .cells [.sl (List.map GKept.c t165_.gList), .sl (List.map cS t165_.gOpen), .int .i64 t165_.gNow] [])], []⟩ _ (by kernel_rfl) .nil ?_
  refine Wc.seq ?_
  obtain ⟨b167_, h158, h⟩ := obind h
  refine Wc.region [{}, {}, {}, { r := some (.v (.int .i64 b167_) []) }] [] [1, 2] [2] [] ⟨[(1, (.v (.int .i64 b167_), [])), (2, (.ptr 2 0, []))], [(2, .cells [.sl (List.map GKept.c t165_.gList), .sl (List.map cS t165_.gOpen), .int .i64 t165_.gNow] [])], []⟩ _ (by kernel_rfl) (.cons (claws_szKeptS h158) .nil) ?_
  refine Wc.seq ?_
  refine Wc.seq ?_
  refine Wc.region [] [] [1, 2, 10] [2] [] ⟨[(1, (.v (.int .i64 b167_), [])), (2, (.ptr 2 0, [])), (10, (.v (.bool (decide (b167_ < 0))), []))], [(2, .cells [.sl (List.map GKept.c t165_.gList), .sl (List.map cS t165_.gOpen), .int .i64 t165_.gNow] [])], []⟩ _ (by kernel_rfl) .nil ?_
  rcases oif h with ⟨h159, h⟩ | ⟨h159, h⟩
  · refine Wc.condT h159 (by kernel_rfl) ?_
    refine Wc.seq ?_
    refine Wc.region [] [] [4] [] [] ⟨[(4, (.v (.int .i64 (-1)), []))], [], []⟩ _ (by kernel_rfl) .nil ?_
    refine Wc.ret ?_
    obtain rfl := Option.some.inj h
    exact ⟨.inl rfl, by kernel_rfl, by kernel_rfl⟩
  · refine Wc.condF h159 (by kernel_rfl) ?_
    refine Wc.fix (st' := ⟨[(1, (.v (.int .i64 b167_), [])), (2, (.ptr 2 0, []))], [(2, .cells [.sl (List.map GKept.c t165_.gList), .sl (List.map cS t165_.gOpen), .int .i64 t165_.gNow] [])], []⟩) [] [1, 2] [2] [] (by kernel_rfl) ?_
    refine Wc.skip ?_
    refine Wc.seq ?_
    obtain ⟨b168_, h160, h⟩ := obind h
    refine Wc.region [{}, {}, {}, { r := some (.v (.int .i64 b168_) []) }] [] [1] [] [] ⟨[(1, (.v (.int .i64 b168_), []))], [], []⟩ _ (by kernel_rfl) (.cons (claws_szStringS h160) .nil) ?_
    refine Wc.seq ?_
    refine Wc.seq ?_
    refine Wc.region [] [] [1, 16] [] [] ⟨[(1, (.v (.int .i64 b168_), [])), (16, (.v (.bool (decide (b168_ < 0))), []))], [], []⟩ _ (by kernel_rfl) .nil ?_
    rcases oif h with ⟨h161, h⟩ | ⟨h161, h⟩
    · refine Wc.condT h161 (by kernel_rfl) ?_
      refine Wc.seq ?_
      refine Wc.region [] [] [4] [] [] ⟨[(4, (.v (.int .i64 (-1)), []))], [], []⟩ _ (by kernel_rfl) .nil ?_
      refine Wc.ret ?_
      obtain rfl := Option.some.inj h
      exact ⟨.inl rfl, by kernel_rfl, by kernel_rfl⟩
    · refine Wc.condF h161 (by kernel_rfl) ?_
      refine Wc.fix (st' := ⟨[(1, (.v (.int .i64 b168_), []))], [], []⟩) [] [1] [] [] (by kernel_rfl) ?_
      refine Wc.skip ?_
      refine Wc.seq ?_
      refine Wc.region [] [] [4] [] [] ⟨[(4, (.v (.int .i64 b168_), []))], [], []⟩ _ (by kernel_rfl) .nil ?_
      refine Wc.ret ?_
      obtain rfl := Option.some.inj h
      exact ⟨.inl rfl, by kernel_rfl, by kernel_rfl⟩

def pspec_l34Terms_L1 (k : Nat) (rspec_l34Term : GTerm → Option GTerm) (rspec_l34Terms : (List GTerm) → Option (List GTerm)) (a187_ : List GTerm) : Nat → (List GTerm) → Int → Option (Out (List GTerm) (List GTerm))
  | 0, _, _ => none
  | m + 1, a188_, b189_ =>
    if (decide (b189_ < (a187_.length : Int))) = true then
      (at' a187_ b189_).bind fun c191_ =>
      (rspec_l34Term c191_).bind fun c192_ =>
      if a188_.length + [c192_].length ≤ 1073741824 then
        pspec_l34Terms_L1 k rspec_l34Term rspec_l34Terms a187_ m (a188_ ++ [c192_]) (wr.i64 (b189_ + 1))
      else none
    else
      some (.done a188_)
mutual
/-- spec.l34Term -/
def pspec_l34Term : Nat → GTerm → Option GTerm
  | 0, _ => none
  | k + 1, c185_ =>
    (pspec_l34Terms k c185_.gKids).bind fun u186_ =>
    some (GTerm.mk c185_.gKind c185_.gName c185_.gNum u186_)
/-- spec.l34Terms -/
def pspec_l34Terms : Nat → (List GTerm) → Option (List GTerm)
  | 0, _ => none
  | k + 1, a187_ =>
    (pspec_l34Terms_L1 k (pspec_l34Term k) (pspec_l34Terms k) a187_ k [] 0).bind fun out1 => match out1 with
    | .ret r => some r
    | .done a190_ =>
      some a190_
end
theorem all_pspec_l34Term : ∀ k : Nat, (∀ {c185_ : GTerm} {r : GTerm}, pspec_l34Term k c185_ = some r → FnO Try.prog 144 [.v (.agg [.int .i64 c185_.gKind, .str c185_.gName, .int .i64 c185_.gNum, .sl (List.map GTerm.c c185_.gKids)]) []] (.v (.agg [.int .i64 r.gKind, .str r.gName, .int .i64 r.gNum, .sl (List.map GTerm.c r.gKids)]) [(3, .app 42)]) []) ∧
    (∀ {a187_ : List GTerm} {r : (List GTerm)}, pspec_l34Terms k a187_ = some r → FnO Try.prog 158 [.v (.sl (List.map GTerm.c a187_)) []] (.v (.sl (List.map GTerm.c r)) [(0, .app 42)]) []) := by
  intro k
  induction k with
  | zero =>
    refine ⟨?_, ?_⟩
    · intro c185_ r h
      exact (onone (by rw [pspec_l34Term] at h; exact h)).elim
    · intro a187_ r h
      exact (onone (by rw [pspec_l34Terms] at h; exact h)).elim
  | succ k ih =>
    obtain ⟨ih_pspec_l34Term, ih_pspec_l34Terms⟩ := ih
    refine ⟨?_, ?_⟩
    · intro c185_ r h
      rw [pspec_l34Term] at h
      refine FnO.of Try.func144 (rfl : Try.f144.body = some _) (Nat.le_of_ble_eq_true (by kernel_rfl)) (Nat.le_of_ble_eq_true (by kernel_rfl)) ?_
      intro w0 X0 Fin pv0 pb
      refine Wc.seq ?_
      refine Wc.region [] [] [1, 2] [1, 2] [] ⟨[(1, (.ptr 1 0, [])), (2, (.ptr 2 0, []))], [(1, .cells [.int .i64 c185_.gKind, .str c185_.gName, .int .i64 c185_.gNum, .sl (List.map GTerm.c c185_.gKids)] []), (2, .cells [.int .i64 0, .str (bs []), .int .i64 0, .sl (List.map GTerm.c [])] [(3, .app 42)])], []⟩ _ (by kernel_rfl) .nil ?_
      refine Wc.seq ?_
      obtain ⟨u186_, h174, h⟩ := obind h
      refine Wc.region [{}, {}, { r := some (.v (.sl (List.map GTerm.c u186_)) [(0, .app 42)]) }, {}, { tk := [5] }] [] [1, 2] [1, 2] [] ⟨[(1, (.ptr 1 0, [])), (2, (.ptr 2 0, []))], [(1, .cells [.int .i64 c185_.gKind, .str c185_.gName, .int .i64 c185_.gNum, .sl (List.map GTerm.c u186_)] [(3, .app 42)]), (2, .cells [.int .i64 0, .str (bs []), .int .i64 0, .sl (List.map GTerm.c [])] [(3, .app 42)])], []⟩ _ (by kernel_rfl) (.cons (ih_pspec_l34Terms h174) .nil) ?_
      refine Wc.seq ?_
      refine Wc.region [{ md := 1 }, { tk := [7] }] [] [2] [2] [] ⟨[(2, (.ptr 2 0, []))], [(2, .cells [.int .i64 c185_.gKind, .str c185_.gName, .int .i64 c185_.gNum, .sl (List.map GTerm.c u186_)] [(3, .app 42)])], []⟩ _ (by kernel_rfl) .nil ?_
      refine Wc.ret ?_
      obtain rfl := Option.some.inj h
      exact ⟨.inl rfl, by kernel_rfl, by kernel_rfl⟩
    · intro a187_ r h
      rw [pspec_l34Terms] at h
      refine FnO.of Try.func158 (rfl : Try.f158.body = some _) (Nat.le_of_ble_eq_true (by kernel_rfl)) (Nat.le_of_ble_eq_true (by kernel_rfl)) ?_
      intro w0 X0 Fin pv0 pb
      refine Wc.seq ?_
      refine Wc.region [] [] [0] [] [] ⟨[(0, (.v (.sl (List.map GTerm.c a187_)), []))], [], []⟩ _ (by kernel_rfl) .nil ?_
      refine Wc.seq ?_
      refine Wc.region [{ c := some (List.map GTerm.c []) }, { tk := [5] }] [] [0, 3] [] [] ⟨[(0, (.v (.sl (List.map GTerm.c a187_)), [])), (3, (.v (.sl (List.map GTerm.c [])), [(0, .app 42)]))], [], []⟩ _ (by kernel_rfl) (.cons (cl_nil GTerm.c) .nil) ?_
      refine Wc.seq ?_
      refine Wc.seq ?_
      refine Wc.region [] [] [0, 3, 4] [] [] ⟨[(0, (.v (.sl (List.map GTerm.c a187_)), [])), (3, (.v (.sl (List.map GTerm.c [])), [(0, .app 42)])), (4, (.v (.int .i64 0), []))], [], []⟩ _ (by kernel_rfl) .nil ?_
      obtain ⟨out1, h175, h⟩ := obind h
      refine Wc.lastJ (fun st => ∃ (a190_ : List GTerm), out1 = .done a190_ ∧ st = ⟨[(3, (.v (.sl (List.map GTerm.c a190_)), [(0, .app 42)]))], [], []⟩) ?_ ?_
      · refine Wc.block ?_
        refine Wc.loop (fun m st => ∃ (a188_ : List GTerm) (b189_ : Int), st = ⟨[(0, (.v (.sl (List.map GTerm.c a187_)), [])), (3, (.v (.sl (List.map GTerm.c a188_)), [(0, .app 42)])), (4, (.v (.int .i64 b189_), []))], [], []⟩ ∧ pspec_l34Terms_L1 k (pspec_l34Term k) (pspec_l34Terms k) a187_ m a188_ b189_ = some out1) ?_ k ⟨_, _, rfl, h175⟩
        rintro m st ⟨a188_, b189_, rfl, h175⟩
        cases m with
        | zero => exact (onone h175).elim
        | succ m =>
          refine Wc.seq ?_
          refine Wc.seq ?_
          refine Wc.region [{}, {}, { v := some (.int .i64 (a187_.length : Int)) }] [] [0, 3, 4, 9] [] [] ⟨[(0, (.v (.sl (List.map GTerm.c a187_)), [])), (3, (.v (.sl (List.map GTerm.c a188_)), [(0, .app 42)])), (4, (.v (.int .i64 b189_), [])), (9, (.v (.bool (decide (b189_ < (a187_.length : Int)))), []))], [], []⟩ _ (by kernel_rfl) (.cons (len_obl GTerm.c a187_) .nil) ?_
          rcases oif h175 with ⟨h176, h175⟩ | ⟨h176, h175⟩
          · refine Wc.condT h176 (by kernel_rfl) ?_
            refine Wc.fix (st' := ⟨[(0, (.v (.sl (List.map GTerm.c a187_)), [])), (3, (.v (.sl (List.map GTerm.c a188_)), [(0, .app 42)])), (4, (.v (.int .i64 b189_), []))], [], []⟩) [] [0, 3, 4] [] [] (by kernel_rfl) ?_
            refine Wc.skip ?_
            refine Wc.seq ?_
            refine Wc.block ?_
            obtain ⟨c191_, h177, h175⟩ := obind h175
            obtain ⟨c192_, h178, h175⟩ := obind h175
            obtain ⟨h179, h175⟩ := oguard h175
            refine Wc.region [{ tk := [3] }, {}, {}, { v := some (.vptr [.int .i64 c191_.gKind, .str c191_.gName, .int .i64 c191_.gNum, .sl (List.map GTerm.c c191_.gKids)]) }, {}, { r := some (.v (.agg [.int .i64 c192_.gKind, .str c192_.gName, .int .i64 c192_.gNum, .sl (List.map GTerm.c c192_.gKids)]) [(3, .app 42)]) }, { c := some (List.map GTerm.c [c192_]) }, { c := some (List.map GTerm.c (a188_ ++ [c192_])), tk := [12] }, { tk := [19] }] [] [0, 3, 4] [] [] ⟨[(0, (.v (.sl (List.map GTerm.c a187_)), [])), (3, (.v (.sl (List.map GTerm.c (a188_ ++ [c192_]))), [(0, .app 42)])), (4, (.v (.int .i64 b189_), []))], [], []⟩ _ (by kernel_rfl) (.cons (at_obl (c := GTerm.c) (GTerm.c_eq c191_) GTerm.c_len h177) (.cons (len_ok 4 [.int .i64 c191_.gKind, .str c191_.gName, .int .i64 c191_.gNum, .sl (List.map GTerm.c c191_.gKids)]) (.cons (ih_pspec_l34Term h178) (.cons (cl_cons (c := GTerm.c) (x := c192_) (GTerm.c_eq c192_) (cl_nil GTerm.c)) (.cons (app_re2 GTerm.c a188_ [c192_]) (.cons (app_leaf (c := GTerm.c) (ys := [c192_]) GTerm.c_leaf) (.cons (app_obl2 (c := GTerm.c) (xs := a188_) (ys := [c192_]) GTerm.c_len h179) .nil))))))) ?_
            refine Wc.region [] [] [0, 3, 4] [] [] ⟨[(0, (.v (.sl (List.map GTerm.c a187_)), [])), (3, (.v (.sl (List.map GTerm.c (a188_ ++ [c192_]))), [(0, .app 42)])), (4, (.v (.int .i64 (wr.i64 (b189_ + 1))), []))], [], []⟩ _ (by kernel_rfl) .nil ?_
            exact ⟨_, Nat.lt_succ_self _, _, _, rfl, h175⟩
          · refine Wc.condF h176 (by kernel_rfl) ?_
            refine Wc.fix (st' := ⟨[(3, (.v (.sl (List.map GTerm.c a188_)), [(0, .app 42)]))], [], []⟩) [] [3] [] [] (by kernel_rfl) ?_
            refine Wc.exit ?_
            obtain rfl := Option.some.inj h175
            exact ⟨_, rfl, rfl⟩
      · rintro st ⟨a190_, rfl, rfl⟩
        refine Wc.seq ?_
        refine Wc.region [{ tk := [3] }, { tk := [20] }] [] [2] [] [] ⟨[(2, (.v (.sl (List.map GTerm.c a190_)), [(0, .app 42)]))], [], []⟩ _ (by kernel_rfl) .nil ?_
        refine Wc.ret ?_
        obtain rfl := Option.some.inj h
        exact ⟨.inl rfl, by kernel_rfl, by kernel_rfl⟩
theorem cspec_l34Term {k : Nat} {c185_ : GTerm} {r : GTerm} (h : pspec_l34Term k c185_ = some r) : FnO Try.prog 144 [.v (.agg [.int .i64 c185_.gKind, .str c185_.gName, .int .i64 c185_.gNum, .sl (List.map GTerm.c c185_.gKids)]) []] (.v (.agg [.int .i64 r.gKind, .str r.gName, .int .i64 r.gNum, .sl (List.map GTerm.c r.gKids)]) [(3, .app 42)]) [] := (all_pspec_l34Term k).1 h
theorem cspec_l34Terms {k : Nat} {a187_ : List GTerm} {r : (List GTerm)} (h : pspec_l34Terms k a187_ = some r) : FnO Try.prog 158 [.v (.sl (List.map GTerm.c a187_)) []] (.v (.sl (List.map GTerm.c r)) [(0, .app 42)]) [] := (all_pspec_l34Term k).2 h

/-- spec.l34Clause -/
def pspec_l34Clause (k : Nat) (e196_ : GClause) : Option GClause :=
  (pspec_l34Term k e196_.gHead).bind fun c197_ =>
  (pspec_l34Term k e196_.gBody).bind fun c198_ =>
  some (GClause.mk c197_ c198_ e196_.gFile)
theorem cspec_l34Clause {k : Nat} {e196_ : GClause} {r : GClause} (h : pspec_l34Clause k e196_ = some r) : FnO Try.prog 139 [.v (.agg [.int .i64 e196_.gHead.gKind, .str e196_.gHead.gName, .int .i64 e196_.gHead.gNum, .sl (List.map GTerm.c e196_.gHead.gKids), .int .i64 e196_.gBody.gKind, .str e196_.gBody.gName, .int .i64 e196_.gBody.gNum, .sl (List.map GTerm.c e196_.gBody.gKids), .str e196_.gFile]) []] (.v (.agg [.int .i64 r.gHead.gKind, .str r.gHead.gName, .int .i64 r.gHead.gNum, .sl (List.map GTerm.c r.gHead.gKids), .int .i64 r.gBody.gKind, .str r.gBody.gName, .int .i64 r.gBody.gNum, .sl (List.map GTerm.c r.gBody.gKids), .str r.gFile]) [(3, .app 42), (7, .app 42)]) [] := by
  refine FnO.of Try.func139 (rfl : Try.f139.body = some _) (Nat.le_of_ble_eq_true (by kernel_rfl)) (Nat.le_of_ble_eq_true (by kernel_rfl)) ?_
  intro w0 X0 Fin pv0 pb
  unfold pspec_l34Clause at h
  refine Wc.seq ?_
  refine Wc.region [] [] [1, 2] [1, 2] [] ⟨[(1, (.ptr 1 0, [])), (2, (.ptr 2 0, []))], [(1, .cells [.int .i64 e196_.gHead.gKind, .str e196_.gHead.gName, .int .i64 e196_.gHead.gNum, .sl (List.map GTerm.c e196_.gHead.gKids), .int .i64 e196_.gBody.gKind, .str e196_.gBody.gName, .int .i64 e196_.gBody.gNum, .sl (List.map GTerm.c e196_.gBody.gKids), .str e196_.gFile] []), (2, .cells [.int .i64 0, .str (bs []), .int .i64 0, .sl (List.map GTerm.c []), .int .i64 0, .str (bs []), .int .i64 0, .sl (List.map GTerm.c []), .str (bs [])] [(3, .app 42), (7, .app 42)])], []⟩ _ (by kernel_rfl) .nil ?_
  refine Wc.seq ?_
  obtain ⟨c197_, h182, h⟩ := obind h
  refine Wc.region [{}, {}, { r := some (.v (.agg [.int .i64 c197_.gKind, .str c197_.gName, .int .i64 c197_.gNum, .sl (List.map GTerm.c c197_.gKids)]) [(3, .app 42)]) }, {}, { tk := [5] }] [] [1, 2] [1, 2] [] ⟨[(1, (.ptr 1 0, [])), (2, (.ptr 2 0, []))], [(1, .cells [.int .i64 c197_.gKind, .str c197_.gName, .int .i64 c197_.gNum, .sl (List.map GTerm.c c197_.gKids), .int .i64 e196_.gBody.gKind, .str e196_.gBody.gName, .int .i64 e196_.gBody.gNum, .sl (List.map GTerm.c e196_.gBody.gKids), .str e196_.gFile] [(3, .app 42)]), (2, .cells [.int .i64 0, .str (bs []), .int .i64 0, .sl (List.map GTerm.c []), .int .i64 0, .str (bs []), .int .i64 0, .sl (List.map GTerm.c []), .str (bs [])] [(3, .app 42), (7, .app 42)])], []⟩ _ (by kernel_rfl) (.cons (cspec_l34Term h182) .nil) ?_
  refine Wc.seq ?_
  obtain ⟨c198_, h183, h⟩ := obind h
  refine Wc.region [{}, {}, { r := some (.v (.agg [.int .i64 c198_.gKind, .str c198_.gName, .int .i64 c198_.gNum, .sl (List.map GTerm.c c198_.gKids)]) [(3, .app 42)]) }, {}, { tk := [9] }] [] [1, 2] [1, 2] [] ⟨[(1, (.ptr 1 0, [])), (2, (.ptr 2 0, []))], [(1, .cells [.int .i64 c197_.gKind, .str c197_.gName, .int .i64 c197_.gNum, .sl (List.map GTerm.c c197_.gKids), .int .i64 c198_.gKind, .str c198_.gName, .int .i64 c198_.gNum, .sl (List.map GTerm.c c198_.gKids), .str e196_.gFile] [(3, .app 42), (7, .app 42)]), (2, .cells [.int .i64 0, .str (bs []), .int .i64 0, .sl (List.map GTerm.c []), .int .i64 0, .str (bs []), .int .i64 0, .sl (List.map GTerm.c []), .str (bs [])] [(3, .app 42), (7, .app 42)])], []⟩ _ (by kernel_rfl) (.cons (cspec_l34Term h183) .nil) ?_
  refine Wc.seq ?_
  refine Wc.region [{ md := 1 }, { tk := [11] }] [] [2] [2] [] ⟨[(2, (.ptr 2 0, []))], [(2, .cells [.int .i64 c197_.gKind, .str c197_.gName, .int .i64 c197_.gNum, .sl (List.map GTerm.c c197_.gKids), .int .i64 c198_.gKind, .str c198_.gName, .int .i64 c198_.gNum, .sl (List.map GTerm.c c198_.gKids), .str e196_.gFile] [(3, .app 42), (7, .app 42)])], []⟩ _ (by kernel_rfl) .nil ?_
  refine Wc.ret ?_
  obtain rfl := Option.some.inj h
  exact ⟨.inl rfl, by kernel_rfl, by kernel_rfl⟩

def pspec_l34Clauses_L1 (k : Nat) (f205_ : List GClause) : Nat → (List GClause) → Int → Option (Out (List GClause) (List GClause))
  | 0, _, _ => none
  | m + 1, f206_, b207_ =>
    if (decide (b207_ < (f205_.length : Int))) = true then
      (at' f205_ b207_).bind fun e209_ =>
      (pspec_l34Clause k e209_).bind fun e210_ =>
      if f206_.length + [e210_].length ≤ 1073741824 then
        pspec_l34Clauses_L1 k f205_ m (f206_ ++ [e210_]) (wr.i64 (b207_ + 1))
      else none
    else
      some (.done f206_)
/-- spec.l34Clauses -/
def pspec_l34Clauses (k : Nat) (f205_ : List GClause) : Option (List GClause) :=
  (pspec_l34Clauses_L1 k f205_ k [] 0).bind fun out1 => match out1 with
  | .ret r => some r
  | .done f208_ =>
    some f208_
theorem cspec_l34Clauses {k : Nat} {f205_ : List GClause} {r : (List GClause)} (h : pspec_l34Clauses k f205_ = some r) : FnO Try.prog 104 [.v (.sl (List.map GClause.c f205_)) []] (.v (.sl (List.map GClause.c r)) [(0, .app 66)]) [] := by
  refine FnO.of Try.func104 (rfl : Try.f104.body = some _) (Nat.le_of_ble_eq_true (by kernel_rfl)) (Nat.le_of_ble_eq_true (by kernel_rfl)) ?_
  intro w0 X0 Fin pv0 pb
  unfold pspec_l34Clauses at h
  refine Wc.seq ?_
  refine Wc.region [] [] [0] [] [] ⟨[(0, (.v (.sl (List.map GClause.c f205_)), []))], [], []⟩ _ (by kernel_rfl) .nil ?_
  refine Wc.seq ?_
  refine Wc.region [{ c := some (List.map GClause.c []) }, { tk := [5] }] [] [0, 3] [] [] ⟨[(0, (.v (.sl (List.map GClause.c f205_)), [])), (3, (.v (.sl (List.map GClause.c [])), [(0, .app 66)]))], [], []⟩ _ (by kernel_rfl) (.cons (cl_nil GClause.c) .nil) ?_
  refine Wc.seq ?_
  refine Wc.seq ?_
  refine Wc.region [] [] [0, 3, 4] [] [] ⟨[(0, (.v (.sl (List.map GClause.c f205_)), [])), (3, (.v (.sl (List.map GClause.c [])), [(0, .app 66)])), (4, (.v (.int .i64 0), []))], [], []⟩ _ (by kernel_rfl) .nil ?_
  obtain ⟨out1, h189, h⟩ := obind h
  refine Wc.lastJ (fun st => ∃ (f208_ : List GClause), out1 = .done f208_ ∧ st = ⟨[(3, (.v (.sl (List.map GClause.c f208_)), [(0, .app 66)]))], [], []⟩) ?_ ?_
  · refine Wc.block ?_
    refine Wc.loop (fun m st => ∃ (f206_ : List GClause) (b207_ : Int), st = ⟨[(0, (.v (.sl (List.map GClause.c f205_)), [])), (3, (.v (.sl (List.map GClause.c f206_)), [(0, .app 66)])), (4, (.v (.int .i64 b207_), []))], [], []⟩ ∧ pspec_l34Clauses_L1 k f205_ m f206_ b207_ = some out1) ?_ k ⟨_, _, rfl, h189⟩
    rintro m st ⟨f206_, b207_, rfl, h189⟩
    cases m with
    | zero => exact (onone h189).elim
    | succ m =>
      refine Wc.seq ?_
      refine Wc.seq ?_
      refine Wc.region [{}, {}, { v := some (.int .i64 (f205_.length : Int)) }] [] [0, 3, 4, 9] [] [] ⟨[(0, (.v (.sl (List.map GClause.c f205_)), [])), (3, (.v (.sl (List.map GClause.c f206_)), [(0, .app 66)])), (4, (.v (.int .i64 b207_), [])), (9, (.v (.bool (decide (b207_ < (f205_.length : Int)))), []))], [], []⟩ _ (by kernel_rfl) (.cons (len_obl GClause.c f205_) .nil) ?_
      rcases oif h189 with ⟨h190, h189⟩ | ⟨h190, h189⟩
      · refine Wc.condT h190 (by kernel_rfl) ?_
        refine Wc.fix (st' := ⟨[(0, (.v (.sl (List.map GClause.c f205_)), [])), (3, (.v (.sl (List.map GClause.c f206_)), [(0, .app 66)])), (4, (.v (.int .i64 b207_), []))], [], []⟩) [] [0, 3, 4] [] [] (by kernel_rfl) ?_
        refine Wc.skip ?_
        refine Wc.seq ?_
        refine Wc.block ?_
        obtain ⟨e209_, h191, h189⟩ := obind h189
        obtain ⟨e210_, h192, h189⟩ := obind h189
        obtain ⟨h193, h189⟩ := oguard h189
        refine Wc.region [{ tk := [3] }, {}, {}, { v := some (.vptr [.int .i64 e209_.gHead.gKind, .str e209_.gHead.gName, .int .i64 e209_.gHead.gNum, .sl (List.map GTerm.c e209_.gHead.gKids), .int .i64 e209_.gBody.gKind, .str e209_.gBody.gName, .int .i64 e209_.gBody.gNum, .sl (List.map GTerm.c e209_.gBody.gKids), .str e209_.gFile]) }, {}, { r := some (.v (.agg [.int .i64 e210_.gHead.gKind, .str e210_.gHead.gName, .int .i64 e210_.gHead.gNum, .sl (List.map GTerm.c e210_.gHead.gKids), .int .i64 e210_.gBody.gKind, .str e210_.gBody.gName, .int .i64 e210_.gBody.gNum, .sl (List.map GTerm.c e210_.gBody.gKids), .str e210_.gFile]) [(3, .app 42), (7, .app 42)]) }, { c := some (List.map GClause.c [e210_]) }, { c := some (List.map GClause.c (f206_ ++ [e210_])), tk := [12] }, { tk := [19] }] [] [0, 3, 4] [] [] ⟨[(0, (.v (.sl (List.map GClause.c f205_)), [])), (3, (.v (.sl (List.map GClause.c (f206_ ++ [e210_]))), [(0, .app 66)])), (4, (.v (.int .i64 b207_), []))], [], []⟩ _ (by kernel_rfl) (.cons (at_obl (c := GClause.c) (GClause.c_eq e209_) GClause.c_len h191) (.cons (len_ok 9 [.int .i64 e209_.gHead.gKind, .str e209_.gHead.gName, .int .i64 e209_.gHead.gNum, .sl (List.map GTerm.c e209_.gHead.gKids), .int .i64 e209_.gBody.gKind, .str e209_.gBody.gName, .int .i64 e209_.gBody.gNum, .sl (List.map GTerm.c e209_.gBody.gKids), .str e209_.gFile]) (.cons (cspec_l34Clause h192) (.cons (cl_cons (c := GClause.c) (x := e210_) (GClause.c_eq e210_) (cl_nil GClause.c)) (.cons (app_re2 GClause.c f206_ [e210_]) (.cons (app_leaf (c := GClause.c) (ys := [e210_]) GClause.c_leaf) (.cons (app_obl2 (c := GClause.c) (xs := f206_) (ys := [e210_]) GClause.c_len h193) .nil))))))) ?_
        refine Wc.region [] [] [0, 3, 4] [] [] ⟨[(0, (.v (.sl (List.map GClause.c f205_)), [])), (3, (.v (.sl (List.map GClause.c (f206_ ++ [e210_]))), [(0, .app 66)])), (4, (.v (.int .i64 (wr.i64 (b207_ + 1))), []))], [], []⟩ _ (by kernel_rfl) .nil ?_
        exact ⟨_, Nat.lt_succ_self _, _, _, rfl, h189⟩
      · refine Wc.condF h190 (by kernel_rfl) ?_
        refine Wc.fix (st' := ⟨[(3, (.v (.sl (List.map GClause.c f206_)), [(0, .app 66)]))], [], []⟩) [] [3] [] [] (by kernel_rfl) ?_
        refine Wc.exit ?_
        obtain rfl := Option.some.inj h189
        exact ⟨_, rfl, rfl⟩
  · rintro st ⟨f208_, rfl, rfl⟩
    refine Wc.seq ?_
    refine Wc.region [{ tk := [3] }, { tk := [20] }] [] [2] [] [] ⟨[(2, (.v (.sl (List.map GClause.c f208_)), [(0, .app 66)]))], [], []⟩ _ (by kernel_rfl) .nil ?_
    refine Wc.ret ?_
    obtain rfl := Option.some.inj h
    exact ⟨.inl rfl, by kernel_rfl, by kernel_rfl⟩

/-- spec.l34Strings -/
def pspec_l34Strings (k : Nat) (g212_ : List ByteArray) : Option (List ByteArray) :=
  if ([] : List ByteArray).length + g212_.length ≤ 1073741824 then
    some g212_
  else none
theorem cspec_l34Strings {k : Nat} {g212_ : List ByteArray} {r : (List ByteArray)} (h : pspec_l34Strings k g212_ = some r) : FnO Try.prog 105 [.v (.sl (List.map cS g212_)) []] (.v (.sl (List.map cS r)) [(0, .app 9)]) [] := by
  refine FnO.of Try.func105 (rfl : Try.f105.body = some _) (Nat.le_of_ble_eq_true (by kernel_rfl)) (Nat.le_of_ble_eq_true (by kernel_rfl)) ?_
  intro w0 X0 Fin pv0 pb
  unfold pspec_l34Strings at h
  refine Wc.seq ?_
  refine Wc.region [] [] [0] [] [] ⟨[(0, (.v (.sl (List.map cS g212_)), []))], [], []⟩ _ (by kernel_rfl) .nil ?_
  refine Wc.seq ?_
  obtain ⟨h195, h⟩ := oguard h
  refine Wc.region [{ c := some (List.map cS []) }, {}, { c := some (List.map cS g212_), tk := [3] }, { tk := [5] }] [] [2] [] [] ⟨[(2, (.v (.sl (List.map cS g212_)), [(0, .app 9)]))], [], []⟩ _ (by kernel_rfl) (.cons (cl_nil cS) (.cons (app_re0 cS g212_) (.cons (app_leaf (c := cS) (ys := g212_) cS_leaf) (.cons (app_obl2 (c := cS) (xs := []) (ys := g212_) cS_len h195) .nil)))) ?_
  refine Wc.ret ?_
  obtain rfl := Option.some.inj h
  exact ⟨.inl rfl, by kernel_rfl, by kernel_rfl⟩

/-- spec.l34Db -/
def pspec_l34Db (k : Nat) (j216_ : GDb) : Option GDb :=
  (pspec_l34Clauses k j216_.gClauses).bind fun v217_ =>
  (pspec_l34Strings k j216_.gOpen).bind fun w218_ =>
  some (GDb.mk v217_ w218_)
theorem cspec_l34Db {k : Nat} {j216_ : GDb} {r : GDb} (h : pspec_l34Db k j216_ = some r) : FnO Try.prog 51 [.v (.agg [.sl (List.map GClause.c j216_.gClauses), .sl (List.map cS j216_.gOpen)]) []] (.v (.agg [.sl (List.map GClause.c r.gClauses), .sl (List.map cS r.gOpen)]) [(0, .app 66), (1, .app 9)]) [] := by
  refine FnO.of Try.func51 (rfl : Try.f51.body = some _) (Nat.le_of_ble_eq_true (by kernel_rfl)) (Nat.le_of_ble_eq_true (by kernel_rfl)) ?_
  intro w0 X0 Fin pv0 pb
  unfold pspec_l34Db at h
  refine Wc.seq ?_
  refine Wc.region [] [] [1, 2] [1, 2] [] ⟨[(1, (.ptr 1 0, [])), (2, (.ptr 2 0, []))], [(1, .cells [.sl (List.map GClause.c j216_.gClauses), .sl (List.map cS j216_.gOpen)] []), (2, .cells [.sl (List.map GClause.c []), .sl (List.map cS [])] [(0, .app 66), (1, .app 9)])], []⟩ _ (by kernel_rfl) .nil ?_
  refine Wc.seq ?_
  obtain ⟨v217_, h198, h⟩ := obind h
  refine Wc.region [{}, {}, { r := some (.v (.sl (List.map GClause.c v217_)) [(0, .app 66)]) }, {}, { tk := [5] }] [] [1, 2] [1, 2] [] ⟨[(1, (.ptr 1 0, [])), (2, (.ptr 2 0, []))], [(1, .cells [.sl (List.map GClause.c v217_), .sl (List.map cS j216_.gOpen)] [(0, .app 66)]), (2, .cells [.sl (List.map GClause.c []), .sl (List.map cS [])] [(0, .app 66), (1, .app 9)])], []⟩ _ (by kernel_rfl) (.cons (cspec_l34Clauses h198) .nil) ?_
  refine Wc.seq ?_
  obtain ⟨w218_, h199, h⟩ := obind h
  refine Wc.region [{}, {}, { r := some (.v (.sl (List.map cS w218_)) [(0, .app 9)]) }, {}, { tk := [9] }] [] [1, 2] [1, 2] [] ⟨[(1, (.ptr 1 0, [])), (2, (.ptr 2 0, []))], [(1, .cells [.sl (List.map GClause.c v217_), .sl (List.map cS w218_)] [(0, .app 66), (1, .app 9)]), (2, .cells [.sl (List.map GClause.c []), .sl (List.map cS [])] [(0, .app 66), (1, .app 9)])], []⟩ _ (by kernel_rfl) (.cons (cspec_l34Strings h199) .nil) ?_
  refine Wc.seq ?_
  refine Wc.region [{ md := 1 }, { tk := [11] }] [] [2] [2] [] ⟨[(2, (.ptr 2 0, []))], [(2, .cells [.sl (List.map GClause.c v217_), .sl (List.map cS w218_)] [(0, .app 66), (1, .app 9)])], []⟩ _ (by kernel_rfl) .nil ?_
  refine Wc.ret ?_
  obtain rfl := Option.some.inj h
  exact ⟨.inl rfl, by kernel_rfl, by kernel_rfl⟩

def pspec_l15DbOfRaw_L1 (k : Nat) (t225_ : GStore) : Nat → Int → GDb → Option (Out GDb GDb)
  | 0, _, _ => none
  | m + 1, b226_, j227_ =>
    if (decide (b226_ < (t225_.gList.length : Int))) = true then
      (at' t225_.gList b226_).bind fun r229_ =>
      if (r229_.gDied == 0) = true then
        (at' t225_.gList b226_).bind fun r230_ =>
        if j227_.gClauses.length + [r230_.gClause].length ≤ 1073741824 then
          pspec_l15DbOfRaw_L1 k t225_ m (wr.i64 (b226_ + 1)) (GDb.mk (j227_.gClauses ++ [r230_.gClause]) j227_.gOpen)
        else none
      else
        pspec_l15DbOfRaw_L1 k t225_ m (wr.i64 (b226_ + 1)) j227_
    else
      some (.done j227_)
/-- spec.l15DbOfRaw -/
def pspec_l15DbOfRaw (k : Nat) (t225_ : GStore) : Option GDb :=
  if ([] : List ByteArray).length + t225_.gOpen.length ≤ 1073741824 then
    (pspec_l15DbOfRaw_L1 k t225_ k 0 (GDb.mk [] t225_.gOpen)).bind fun out1 => match out1 with
    | .ret r => some r
    | .done j228_ =>
      some j228_
  else none
theorem cspec_l15DbOfRaw {k : Nat} {t225_ : GStore} {r : GDb} (h : pspec_l15DbOfRaw k t225_ = some r) : FnO Try.prog 96 [.v (.agg [.sl (List.map GKept.c t225_.gList), .sl (List.map cS t225_.gOpen), .int .i64 t225_.gNow]) []] (.v (.agg [.sl (List.map GClause.c r.gClauses), .sl (List.map cS r.gOpen)]) [(0, .app 66), (1, .app 9)]) [] := by
  refine FnO.of Try.func96 (rfl : Try.f96.body = some _) (Nat.le_of_ble_eq_true (by kernel_rfl)) (Nat.le_of_ble_eq_true (by kernel_rfl)) ?_
  intro w0 X0 Fin pv0 pb
  unfold pspec_l15DbOfRaw at h
  refine Wc.seq ?_
  refine Wc.region [] [] [1, 2] [1, 2] [] ⟨[(1, (.ptr 1 0, [])), (2, (.ptr 2 0, []))], [(1, .cells [.sl (List.map GKept.c t225_.gList), .sl (List.map cS t225_.gOpen), .int .i64 t225_.gNow] []), (2, .cells [.sl (List.map GClause.c []), .sl (List.map cS [])] [(0, .app 66), (1, .app 9)])], []⟩ _ (by kernel_rfl) .nil ?_
  refine Wc.seq ?_
  obtain ⟨h207, h⟩ := oguard h
  refine Wc.region [{ c := some (List.map cS []) }, {}, {}, { c := some (List.map cS t225_.gOpen), tk := [5] }, { tk := [8] }, {}, { tk := [9] }] [] [1, 2, 3] [1, 2, 3] [] ⟨[(1, (.ptr 1 0, [])), (2, (.ptr 2 0, [])), (3, (.ptr 3 0, []))], [(1, .cells [.sl (List.map GKept.c t225_.gList), .sl (List.map cS t225_.gOpen), .int .i64 t225_.gNow] []), (2, .cells [.sl (List.map GClause.c []), .sl (List.map cS [])] [(0, .app 66), (1, .app 9)]), (3, .cells [.sl (List.map GClause.c []), .sl (List.map cS t225_.gOpen)] [(0, .app 66), (1, .app 9)])], []⟩ _ (by kernel_rfl) (.cons (cl_nil cS) (.cons (app_re0 cS t225_.gOpen) (.cons (app_leaf (c := cS) (ys := t225_.gOpen) cS_leaf) (.cons (app_obl2 (c := cS) (xs := []) (ys := t225_.gOpen) cS_len h207) .nil)))) ?_
  refine Wc.seq ?_
  refine Wc.seq ?_
  refine Wc.region [] [] [1, 2, 3, 4] [1, 2, 3] [] ⟨[(1, (.ptr 1 0, [])), (2, (.ptr 2 0, [])), (3, (.ptr 3 0, [])), (4, (.v (.int .i64 0), []))], [(1, .cells [.sl (List.map GKept.c t225_.gList), .sl (List.map cS t225_.gOpen), .int .i64 t225_.gNow] []), (2, .cells [.sl (List.map GClause.c []), .sl (List.map cS [])] [(0, .app 66), (1, .app 9)]), (3, .cells [.sl (List.map GClause.c []), .sl (List.map cS t225_.gOpen)] [(0, .app 66), (1, .app 9)])], []⟩ _ (by kernel_rfl) .nil ?_
  obtain ⟨out1, h208, h⟩ := obind h
  refine Wc.lastJ (fun st => ∃ (j228_ : GDb), out1 = .done j228_ ∧ st = ⟨[(2, (.ptr 2 0, [])), (3, (.ptr 3 0, []))], [(2, .cells [.sl (List.map GClause.c []), .sl (List.map cS [])] [(0, .app 66), (1, .app 9)]), (3, .cells [.sl (List.map GClause.c j228_.gClauses), .sl (List.map cS j228_.gOpen)] [(0, .app 66), (1, .app 9)])], []⟩) ?_ ?_
  · refine Wc.block ?_
    refine Wc.loop (fun m st => ∃ (b226_ : Int) (j227_ : GDb), st = ⟨[(1, (.ptr 1 0, [])), (2, (.ptr 2 0, [])), (3, (.ptr 3 0, [])), (4, (.v (.int .i64 b226_), []))], [(1, .cells [.sl (List.map GKept.c t225_.gList), .sl (List.map cS t225_.gOpen), .int .i64 t225_.gNow] []), (2, .cells [.sl (List.map GClause.c []), .sl (List.map cS [])] [(0, .app 66), (1, .app 9)]), (3, .cells [.sl (List.map GClause.c j227_.gClauses), .sl (List.map cS j227_.gOpen)] [(0, .app 66), (1, .app 9)])], []⟩ ∧ pspec_l15DbOfRaw_L1 k t225_ m b226_ j227_ = some out1) ?_ k ⟨_, _, rfl, h208⟩
    rintro m st ⟨b226_, j227_, rfl, h208⟩
    cases m with
    | zero => exact (onone h208).elim
    | succ m =>
      refine Wc.seq ?_
      refine Wc.seq ?_
      refine Wc.region [{}, {}, {}, { v := some (.int .i64 (t225_.gList.length : Int)) }] [] [1, 2, 3, 4, 14] [1, 2, 3] [] ⟨[(1, (.ptr 1 0, [])), (2, (.ptr 2 0, [])), (3, (.ptr 3 0, [])), (4, (.v (.int .i64 b226_), [])), (14, (.v (.bool (decide (b226_ < (t225_.gList.length : Int)))), []))], [(1, .cells [.sl (List.map GKept.c t225_.gList), .sl (List.map cS t225_.gOpen), .int .i64 t225_.gNow] []), (2, .cells [.sl (List.map GClause.c []), .sl (List.map cS [])] [(0, .app 66), (1, .app 9)]), (3, .cells [.sl (List.map GClause.c j227_.gClauses), .sl (List.map cS j227_.gOpen)] [(0, .app 66), (1, .app 9)])], []⟩ _ (by kernel_rfl) (.cons (len_obl GKept.c t225_.gList) .nil) ?_
      rcases oif h208 with ⟨h209, h208⟩ | ⟨h209, h208⟩
      · refine Wc.condT h209 (by kernel_rfl) ?_
        refine Wc.fix (st' := ⟨[(1, (.ptr 1 0, [])), (2, (.ptr 2 0, [])), (3, (.ptr 3 0, [])), (4, (.v (.int .i64 b226_), []))], [(1, .cells [.sl (List.map GKept.c t225_.gList), .sl (List.map cS t225_.gOpen), .int .i64 t225_.gNow] []), (2, .cells [.sl (List.map GClause.c []), .sl (List.map cS [])] [(0, .app 66), (1, .app 9)]), (3, .cells [.sl (List.map GClause.c j227_.gClauses), .sl (List.map cS j227_.gOpen)] [(0, .app 66), (1, .app 9)])], []⟩) [] [1, 2, 3, 4] [1, 2, 3] [] (by kernel_rfl) ?_
        refine Wc.skip ?_
        refine Wc.seq ?_
        refine Wc.block ?_
        refine Wc.seq ?_
        obtain ⟨r229_, h210, h208⟩ := obind h208
        refine Wc.region [{}, {}, {}, { v := some (.vptr [.int .i64 r229_.gClause.gHead.gKind, .str r229_.gClause.gHead.gName, .int .i64 r229_.gClause.gHead.gNum, .sl (List.map GTerm.c r229_.gClause.gHead.gKids), .int .i64 r229_.gClause.gBody.gKind, .str r229_.gClause.gBody.gName, .int .i64 r229_.gClause.gBody.gNum, .sl (List.map GTerm.c r229_.gClause.gBody.gKids), .str r229_.gClause.gFile, .sl (List.map GIns.c r229_.gCode.gHead), .sl (List.map GIns.c r229_.gCode.gBody), .int .i64 r229_.gCode.gVars, .int .i64 r229_.gBorn, .int .i64 r229_.gDied]) }] [] [1, 2, 3, 4, 23] [1, 2, 3] [] ⟨[(1, (.ptr 1 0, [])), (2, (.ptr 2 0, [])), (3, (.ptr 3 0, [])), (4, (.v (.int .i64 b226_), [])), (23, (.v (.bool (r229_.gDied == 0)), []))], [(1, .cells [.sl (List.map GKept.c t225_.gList), .sl (List.map cS t225_.gOpen), .int .i64 t225_.gNow] []), (2, .cells [.sl (List.map GClause.c []), .sl (List.map cS [])] [(0, .app 66), (1, .app 9)]), (3, .cells [.sl (List.map GClause.c j227_.gClauses), .sl (List.map cS j227_.gOpen)] [(0, .app 66), (1, .app 9)])], []⟩ _ (by kernel_rfl) (.cons (at_obl (c := GKept.c) (GKept.c_eq r229_) GKept.c_len h210) (.cons (len_ok 1 [.int .i64 r229_.gDied]) .nil)) ?_
        rcases oif h208 with ⟨h211, h208⟩ | ⟨h211, h208⟩
        · refine Wc.condT h211 (by kernel_rfl) ?_
          obtain ⟨r230_, h212, h208⟩ := obind h208
          obtain ⟨h213, h208⟩ := oguard h208
          refine Wc.draw hmix [{}, { md := 1 }, {}, {}, {}, { v := some (.vptr [.int .i64 r230_.gClause.gHead.gKind, .str r230_.gClause.gHead.gName, .int .i64 r230_.gClause.gHead.gNum, .sl (List.map GTerm.c r230_.gClause.gHead.gKids), .int .i64 r230_.gClause.gBody.gKind, .str r230_.gClause.gBody.gName, .int .i64 r230_.gClause.gBody.gNum, .sl (List.map GTerm.c r230_.gClause.gBody.gKids), .str r230_.gClause.gFile, .sl (List.map GIns.c r230_.gCode.gHead), .sl (List.map GIns.c r230_.gCode.gBody), .int .i64 r230_.gCode.gVars, .int .i64 r230_.gBorn, .int .i64 r230_.gDied]) }, {}, {}, { c := some (List.map GClause.c [r230_.gClause]) }, { c := some (List.map GClause.c (j227_.gClauses ++ [r230_.gClause])), tk := [25] }, {}, { tk := [33] }] [.so 3] [1, 2, 3, 4] [1, 2, 3] [] ⟨[(1, (.ptr 1 0, [])), (2, (.ptr 2 0, [])), (3, (.ptr 3 0, [])), (4, (.v (.int .i64 b226_), []))], [(1, .cells [.sl (List.map GKept.c t225_.gList), .sl (List.map cS t225_.gOpen), .int .i64 t225_.gNow] []), (2, .cells [.sl (List.map GClause.c []), .sl (List.map cS [])] [(0, .app 66), (1, .app 9)]), (3, .cells [.sl (List.map GClause.c (j227_.gClauses ++ [r230_.gClause])), .sl (List.map cS j227_.gOpen)] [(0, .app 66), (1, .app 9)])], []⟩ _ (by kernel_rfl) (fun X => by kernel_rfl) (.cons (at_obl (c := GKept.c) (GKept.c_eq r230_) GKept.c_len h212) (.cons (len_ok 9 [.int .i64 r230_.gClause.gHead.gKind, .str r230_.gClause.gHead.gName, .int .i64 r230_.gClause.gHead.gNum, .sl (List.map GTerm.c r230_.gClause.gHead.gKids), .int .i64 r230_.gClause.gBody.gKind, .str r230_.gClause.gBody.gName, .int .i64 r230_.gClause.gBody.gNum, .sl (List.map GTerm.c r230_.gClause.gBody.gKids), .str r230_.gClause.gFile, .sl (List.map GIns.c r230_.gCode.gHead), .sl (List.map GIns.c r230_.gCode.gBody), .int .i64 r230_.gCode.gVars, .int .i64 r230_.gBorn, .int .i64 r230_.gDied]) (.cons (cl_cons (c := GClause.c) (x := r230_.gClause) (GClause.c_eq r230_.gClause) (cl_nil GClause.c)) (.cons (app_re2 GClause.c j227_.gClauses [r230_.gClause]) (.cons (app_leaf (c := GClause.c) (ys := [r230_.gClause]) GClause.c_leaf) (.cons (app_obl2 (c := GClause.c) (xs := j227_.gClauses) (ys := [r230_.gClause]) GClause.c_len h213) .nil)))))) ?_
          refine Wc.region [] [] [1, 2, 3, 4] [1, 2, 3] [] ⟨[(1, (.ptr 1 0, [])), (2, (.ptr 2 0, [])), (3, (.ptr 3 0, [])), (4, (.v (.int .i64 (wr.i64 (b226_ + 1))), []))], [(1, .cells [.sl (List.map GKept.c t225_.gList), .sl (List.map cS t225_.gOpen), .int .i64 t225_.gNow] []), (2, .cells [.sl (List.map GClause.c []), .sl (List.map cS [])] [(0, .app 66), (1, .app 9)]), (3, .cells [.sl (List.map GClause.c (j227_.gClauses ++ [r230_.gClause])), .sl (List.map cS j227_.gOpen)] [(0, .app 66), (1, .app 9)])], []⟩ _ (by kernel_rfl) .nil ?_
          exact ⟨_, Nat.lt_succ_self _, _, _, rfl, h208⟩
        · refine Wc.condF h211 (by kernel_rfl) ?_
          refine Wc.fix (st' := ⟨[(1, (.ptr 1 0, [])), (2, (.ptr 2 0, [])), (3, (.ptr 3 0, [])), (4, (.v (.int .i64 b226_), []))], [(1, .cells [.sl (List.map GKept.c t225_.gList), .sl (List.map cS t225_.gOpen), .int .i64 t225_.gNow] []), (2, .cells [.sl (List.map GClause.c []), .sl (List.map cS [])] [(0, .app 66), (1, .app 9)]), (3, .cells [.sl (List.map GClause.c j227_.gClauses), .sl (List.map cS j227_.gOpen)] [(0, .app 66), (1, .app 9)])], []⟩) [] [1, 2, 3, 4] [1, 2, 3] [] (by kernel_rfl) ?_
          refine Wc.skip ?_
          refine Wc.region [] [] [1, 2, 3, 4] [1, 2, 3] [] ⟨[(1, (.ptr 1 0, [])), (2, (.ptr 2 0, [])), (3, (.ptr 3 0, [])), (4, (.v (.int .i64 (wr.i64 (b226_ + 1))), []))], [(1, .cells [.sl (List.map GKept.c t225_.gList), .sl (List.map cS t225_.gOpen), .int .i64 t225_.gNow] []), (2, .cells [.sl (List.map GClause.c []), .sl (List.map cS [])] [(0, .app 66), (1, .app 9)]), (3, .cells [.sl (List.map GClause.c j227_.gClauses), .sl (List.map cS j227_.gOpen)] [(0, .app 66), (1, .app 9)])], []⟩ _ (by kernel_rfl) .nil ?_
          exact ⟨_, Nat.lt_succ_self _, _, _, rfl, h208⟩
      · refine Wc.condF h209 (by kernel_rfl) ?_
        refine Wc.fix (st' := ⟨[(2, (.ptr 2 0, [])), (3, (.ptr 3 0, []))], [(2, .cells [.sl (List.map GClause.c []), .sl (List.map cS [])] [(0, .app 66), (1, .app 9)]), (3, .cells [.sl (List.map GClause.c j227_.gClauses), .sl (List.map cS j227_.gOpen)] [(0, .app 66), (1, .app 9)])], []⟩) [] [2, 3] [2, 3] [] (by kernel_rfl) ?_
        refine Wc.exit ?_
        obtain rfl := Option.some.inj h208
        exact ⟨_, rfl, rfl⟩
  · rintro st ⟨j228_, rfl, rfl⟩
    refine Wc.seq ?_
    refine Wc.region [{ md := 1 }, { tk := [35] }] [] [2] [2] [] ⟨[(2, (.ptr 2 0, []))], [(2, .cells [.sl (List.map GClause.c j228_.gClauses), .sl (List.map cS j228_.gOpen)] [(0, .app 66), (1, .app 9)])], []⟩ _ (by kernel_rfl) .nil ?_
    refine Wc.ret ?_
    obtain rfl := Option.some.inj h
    exact ⟨.inl rfl, by kernel_rfl, by kernel_rfl⟩
end Go.Proofs.Ytgfpmdaihkdhkaa

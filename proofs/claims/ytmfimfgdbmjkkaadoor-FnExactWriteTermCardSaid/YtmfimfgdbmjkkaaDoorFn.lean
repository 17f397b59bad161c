/- What the functions do, part 3. -/
import Derived.Test.YtmfimfgdbmjkkaaDoorFnb
set_option linter.unusedVariables false
set_option linter.unusedSimpArgs false
namespace Go.Proofs.YtmfimfgdbmjkkaaDoor
open Go.RowKit Go.Bv
def plaws_eqTermS_L1 (k : Nat) (rlaws_eqTerm : GTerm → GTerm → Option Bool) (rlaws_eqTermS : (List GTerm) → (List GTerm) → Option Bool) (a285_ : List GTerm) (a286_ : List GTerm) : Nat → Int → Option (Out Bool Unit)
  | 0, _ => none
  | m + 1, b287_ =>
    if (decide (b287_ < (a285_.length : Int))) = true then
      (at' a285_ b287_).bind fun c288_ =>
      (at' a286_ b287_).bind fun c289_ =>
      (rlaws_eqTerm c288_ c289_).bind fun e290_ =>
      if (!e290_) = true then
        some (.ret false)
      else
        plaws_eqTermS_L1 k rlaws_eqTerm rlaws_eqTermS a285_ a286_ m (wr.i64 (b287_ + 1))
    else
      some (.done ())
mutual
/-- laws.eqTerm -/
def plaws_eqTerm : Nat → GTerm → GTerm → Option Bool
  | 0, _, _ => none
  | k + 1, c282_, c283_ =>
    if (c282_.gKind != c283_.gKind) = true then
      some false
    else
      if (!(sEq c282_.gName c283_.gName)) = true then
        some false
      else
        if (c282_.gNum != c283_.gNum) = true then
          some false
        else
          (plaws_eqTermS k c282_.gKids c283_.gKids).bind fun e284_ =>
          if (!e284_) = true then
            some false
          else
            some true
/-- laws.eqTermS -/
def plaws_eqTermS : Nat → (List GTerm) → (List GTerm) → Option Bool
  | 0, _, _ => none
  | k + 1, a285_, a286_ =>
    if ((a285_.length : Int) != (a286_.length : Int)) = true then
      some false
    else
      (plaws_eqTermS_L1 k (plaws_eqTerm k) (plaws_eqTermS k) a285_ a286_ k 0).bind fun out1 => match out1 with
      | .ret r => some r
      | .done () =>
        some true
end
set_option maxHeartbeats 4000000 in
theorem all_plaws_eqTerm : ∀ k : Nat, (∀ {c282_ : GTerm} {c283_ : GTerm} {r : Bool}, plaws_eqTerm k c282_ c283_ = some r → FnO Tryd.prog 8 [.v (.agg [.int .i64 c282_.gKind, .str c282_.gName, .int .i64 c282_.gNum, .sl (List.map GTerm.c c282_.gKids)]) [], .v (.agg [.int .i64 c283_.gKind, .str c283_.gName, .int .i64 c283_.gNum, .sl (List.map GTerm.c c283_.gKids)]) []] (.v (.bool r) []) []) ∧
    (∀ {a285_ : List GTerm} {a286_ : List GTerm} {r : Bool}, plaws_eqTermS k a285_ a286_ = some r → FnO Tryd.prog 15 [.v (.sl (List.map GTerm.c a285_)) [], .v (.sl (List.map GTerm.c a286_)) []] (.v (.bool r) []) []) := by
  intro k
  induction k with
  | zero =>
    refine ⟨?_, ?_⟩
    · intro c282_ c283_ r h
      exact (onone (by rw [plaws_eqTerm] at h; exact h)).elim
    · intro a285_ a286_ r h
      exact (onone (by rw [plaws_eqTermS] at h; exact h)).elim
  | succ k ih =>
    obtain ⟨ih_plaws_eqTerm, ih_plaws_eqTermS⟩ := ih
    refine ⟨?_, ?_⟩
    · intro c282_ c283_ r h
      rw [plaws_eqTerm] at h
      refine FnO.of Tryd.func8 (rfl : Tryd.f8.body = some _) (Nat.le_of_ble_eq_true (by kernel_rfl)) (Nat.le_of_ble_eq_true (by kernel_rfl)) ?_
      intro w0 X0 Fin pv0 pb gt
      refine Wc.seq ?_
      refine Wc.region [] [] [2, 3] [2, 3] [] ⟨[(2, (.ptr 2 0, [])), (3, (.ptr 3 0, []))], [(2, .cells [.int .i64 c282_.gKind, .str c282_.gName, .int .i64 c282_.gNum, .sl (List.map GTerm.c c282_.gKids)] []), (3, .cells [.int .i64 c283_.gKind, .str c283_.gName, .int .i64 c283_.gNum, .sl (List.map GTerm.c c283_.gKids)] [])], []⟩ _ (by kernel_rfl) .nil ?_
      refine Wc.seq ?_
      refine Wc.seq ?_
      refine Wc.region [] [] [2, 3, 9] [2, 3] [] ⟨[(2, (.ptr 2 0, [])), (3, (.ptr 3 0, [])), (9, (.v (.bool (c282_.gKind != c283_.gKind)), []))], [(2, .cells [.int .i64 c282_.gKind, .str c282_.gName, .int .i64 c282_.gNum, .sl (List.map GTerm.c c282_.gKids)] []), (3, .cells [.int .i64 c283_.gKind, .str c283_.gName, .int .i64 c283_.gNum, .sl (List.map GTerm.c c283_.gKids)] [])], []⟩ _ (by kernel_rfl) .nil ?_
      rcases oif h with ⟨h487, h⟩ | ⟨h487, h⟩
      · refine Wc.condT h487 (by kernel_rfl) ?_
        refine Wc.seq ?_
        refine Wc.region [] [] [4] [] [] ⟨[(4, (.v (.bool false), []))], [], []⟩ _ (by kernel_rfl) .nil ?_
        refine Wc.ret ?_
        obtain rfl := Option.some.inj h
        exact ⟨.inl rfl, by kernel_rfl, by kernel_rfl⟩
      · refine Wc.condF h487 (by kernel_rfl) ?_
        refine Wc.fix (st' := ⟨[(2, (.ptr 2 0, [])), (3, (.ptr 3 0, []))], [(2, .cells [.int .i64 c282_.gKind, .str c282_.gName, .int .i64 c282_.gNum, .sl (List.map GTerm.c c282_.gKids)] []), (3, .cells [.int .i64 c283_.gKind, .str c283_.gName, .int .i64 c283_.gNum, .sl (List.map GTerm.c c283_.gKids)] [])], []⟩) [] [2, 3] [2, 3] [] (by kernel_rfl) ?_
        refine Wc.skip ?_
        refine Wc.seq ?_
        refine Wc.seq ?_
        refine Wc.region [] [] [2, 3, 14] [2, 3] [] ⟨[(2, (.ptr 2 0, [])), (3, (.ptr 3 0, [])), (14, (.v (.bool (!(sEq c282_.gName c283_.gName))), []))], [(2, .cells [.int .i64 c282_.gKind, .str c282_.gName, .int .i64 c282_.gNum, .sl (List.map GTerm.c c282_.gKids)] []), (3, .cells [.int .i64 c283_.gKind, .str c283_.gName, .int .i64 c283_.gNum, .sl (List.map GTerm.c c283_.gKids)] [])], []⟩ _ (by kernel_rfl) .nil ?_
        rcases oif h with ⟨h488, h⟩ | ⟨h488, h⟩
        · refine Wc.condT h488 (by kernel_rfl) ?_
          refine Wc.seq ?_
          refine Wc.region [] [] [4] [] [] ⟨[(4, (.v (.bool false), []))], [], []⟩ _ (by kernel_rfl) .nil ?_
          refine Wc.ret ?_
          obtain rfl := Option.some.inj h
          exact ⟨.inl rfl, by kernel_rfl, by kernel_rfl⟩
        · refine Wc.condF h488 (by kernel_rfl) ?_
          refine Wc.fix (st' := ⟨[(2, (.ptr 2 0, [])), (3, (.ptr 3 0, []))], [(2, .cells [.int .i64 c282_.gKind, .str c282_.gName, .int .i64 c282_.gNum, .sl (List.map GTerm.c c282_.gKids)] []), (3, .cells [.int .i64 c283_.gKind, .str c283_.gName, .int .i64 c283_.gNum, .sl (List.map GTerm.c c283_.gKids)] [])], []⟩) [] [2, 3] [2, 3] [] (by kernel_rfl) ?_
          refine Wc.skip ?_
          refine Wc.seq ?_
          refine Wc.seq ?_
          refine Wc.region [] [] [2, 3, 19] [2, 3] [] ⟨[(2, (.ptr 2 0, [])), (3, (.ptr 3 0, [])), (19, (.v (.bool (c282_.gNum != c283_.gNum)), []))], [(2, .cells [.int .i64 c282_.gKind, .str c282_.gName, .int .i64 c282_.gNum, .sl (List.map GTerm.c c282_.gKids)] []), (3, .cells [.int .i64 c283_.gKind, .str c283_.gName, .int .i64 c283_.gNum, .sl (List.map GTerm.c c283_.gKids)] [])], []⟩ _ (by kernel_rfl) .nil ?_
          rcases oif h with ⟨h489, h⟩ | ⟨h489, h⟩
          · refine Wc.condT h489 (by kernel_rfl) ?_
            refine Wc.seq ?_
            refine Wc.region [] [] [4] [] [] ⟨[(4, (.v (.bool false), []))], [], []⟩ _ (by kernel_rfl) .nil ?_
            refine Wc.ret ?_
            obtain rfl := Option.some.inj h
            exact ⟨.inl rfl, by kernel_rfl, by kernel_rfl⟩
          · refine Wc.condF h489 (by kernel_rfl) ?_
            refine Wc.fix (st' := ⟨[(2, (.ptr 2 0, [])), (3, (.ptr 3 0, []))], [(2, .cells [.int .i64 c282_.gKind, .str c282_.gName, .int .i64 c282_.gNum, .sl (List.map GTerm.c c282_.gKids)] []), (3, .cells [.int .i64 c283_.gKind, .str c283_.gName, .int .i64 c283_.gNum, .sl (List.map GTerm.c c283_.gKids)] [])], []⟩) [] [2, 3] [2, 3] [] (by kernel_rfl) ?_
            refine Wc.skip ?_
            refine Wc.seq ?_
            refine Wc.seq ?_
            obtain ⟨e284_, h490, h⟩ := obind h
            refine Wc.region [{}, {}, {}, {}, { r := some (.v (.bool e284_) []) }] [] [25] [] [] ⟨[(25, (.v (.bool (!e284_)), []))], [], []⟩ _ (by kernel_rfl) (.cons (ih_plaws_eqTermS h490) .nil) ?_
            rcases oif h with ⟨h491, h⟩ | ⟨h491, h⟩
            · refine Wc.condT h491 (by kernel_rfl) ?_
              refine Wc.seq ?_
              refine Wc.region [] [] [4] [] [] ⟨[(4, (.v (.bool false), []))], [], []⟩ _ (by kernel_rfl) .nil ?_
              refine Wc.ret ?_
              obtain rfl := Option.some.inj h
              exact ⟨.inl rfl, by kernel_rfl, by kernel_rfl⟩
            · refine Wc.condF h491 (by kernel_rfl) ?_
              refine Wc.fix (st' := ⟨[], [], []⟩) [] [] [] [] (by kernel_rfl) ?_
              refine Wc.skip ?_
              refine Wc.seq ?_
              refine Wc.region [] [] [4] [] [] ⟨[(4, (.v (.bool true), []))], [], []⟩ _ (by kernel_rfl) .nil ?_
              refine Wc.ret ?_
              obtain rfl := Option.some.inj h
              exact ⟨.inl rfl, by kernel_rfl, by kernel_rfl⟩
    · intro a285_ a286_ r h
      rw [plaws_eqTermS] at h
      refine FnO.of Tryd.func15 (rfl : Tryd.f15.body = some _) (Nat.le_of_ble_eq_true (by kernel_rfl)) (Nat.le_of_ble_eq_true (by kernel_rfl)) ?_
      intro w0 X0 Fin pv0 pb gt
      refine Wc.seq ?_
      refine Wc.region [] [] [0, 1] [] [] ⟨[(0, (.v (.sl (List.map GTerm.c a285_)), [])), (1, (.v (.sl (List.map GTerm.c a286_)), []))], [], []⟩ _ (by kernel_rfl) .nil ?_
      refine Wc.seq ?_
      refine Wc.seq ?_
      refine Wc.region [{}, { v := some (.int .i64 (a285_.length : Int)) }, {}, { v := some (.int .i64 (a286_.length : Int)) }] [] [0, 1, 10] [] [] ⟨[(0, (.v (.sl (List.map GTerm.c a285_)), [])), (1, (.v (.sl (List.map GTerm.c a286_)), [])), (10, (.v (.bool ((a285_.length : Int) != (a286_.length : Int))), []))], [], []⟩ _ (by kernel_rfl) (.cons (len_obl GTerm.c a285_) (.cons (len_obl GTerm.c a286_) .nil)) ?_
      rcases oif h with ⟨h492, h⟩ | ⟨h492, h⟩
      · refine Wc.condT h492 (by kernel_rfl) ?_
        refine Wc.seq ?_
        refine Wc.region [] [] [4] [] [] ⟨[(4, (.v (.bool false), []))], [], []⟩ _ (by kernel_rfl) .nil ?_
        refine Wc.ret ?_
        obtain rfl := Option.some.inj h
        exact ⟨.inl rfl, by kernel_rfl, by kernel_rfl⟩
      · refine Wc.condF h492 (by kernel_rfl) ?_
        refine Wc.fix (st' := ⟨[(0, (.v (.sl (List.map GTerm.c a285_)), [])), (1, (.v (.sl (List.map GTerm.c a286_)), []))], [], []⟩) [] [0, 1] [] [] (by kernel_rfl) ?_
        refine Wc.skip ?_
        refine Wc.seq ?_
        refine Wc.seq ?_
        refine Wc.region [] [] [0, 1, 5] [] [] ⟨[(0, (.v (.sl (List.map GTerm.c a285_)), [])), (1, (.v (.sl (List.map GTerm.c a286_)), [])), (5, (.v (.int .i64 0), []))], [], []⟩ _ (by kernel_rfl) .nil ?_
        obtain ⟨out1, h493, h⟩ := obind h
        refine Wc.lastJ (fun st => out1 = .done () ∧ st = ⟨[], [], []⟩) ?_ ?_
        · refine Wc.block ?_
          refine Wc.loop (fun m st => ∃ (b287_ : Int), st = ⟨[(0, (.v (.sl (List.map GTerm.c a285_)), [])), (1, (.v (.sl (List.map GTerm.c a286_)), [])), (5, (.v (.int .i64 b287_), []))], [], []⟩ ∧ plaws_eqTermS_L1 k (plaws_eqTerm k) (plaws_eqTermS k) a285_ a286_ m b287_ = some out1) ?_ k ⟨_, rfl, h493⟩
          rintro m st ⟨b287_, rfl, h493⟩
          cases m with
          | zero => exact (onone h493).elim
          | succ m =>
            refine Wc.seq ?_
            refine Wc.seq ?_
            refine Wc.region [{}, {}, { v := some (.int .i64 (a285_.length : Int)) }] [] [0, 1, 5, 14] [] [] ⟨[(0, (.v (.sl (List.map GTerm.c a285_)), [])), (1, (.v (.sl (List.map GTerm.c a286_)), [])), (5, (.v (.int .i64 b287_), [])), (14, (.v (.bool (decide (b287_ < (a285_.length : Int)))), []))], [], []⟩ _ (by kernel_rfl) (.cons (len_obl GTerm.c a285_) .nil) ?_
            rcases oif h493 with ⟨h494, h493⟩ | ⟨h494, h493⟩
            · refine Wc.condT h494 (by kernel_rfl) ?_
              refine Wc.fix (st' := ⟨[(0, (.v (.sl (List.map GTerm.c a285_)), [])), (1, (.v (.sl (List.map GTerm.c a286_)), [])), (5, (.v (.int .i64 b287_), []))], [], []⟩) [] [0, 1, 5] [] [] (by kernel_rfl) ?_
              refine Wc.skip ?_
              refine Wc.seq ?_
              refine Wc.block ?_
              refine Wc.seq ?_
              obtain ⟨c288_, h495, h493⟩ := obind h493
              obtain ⟨c289_, h496, h493⟩ := obind h493
              obtain ⟨e290_, h497, h493⟩ := obind h493
              refine Wc.draw hmix [{}, {}, { v := some (.vptr [.int .i64 c288_.gKind, .str c288_.gName, .int .i64 c288_.gNum, .sl (List.map GTerm.c c288_.gKids)]) }, {}, {}, {}, { v := some (.vptr [.int .i64 c289_.gKind, .str c289_.gName, .int .i64 c289_.gNum, .sl (List.map GTerm.c c289_.gKids)]) }, {}, { r := some (.v (.bool e290_) []) }] [] [0, 1, 5, 26] [] [] ⟨[(0, (.v (.sl (List.map GTerm.c a285_)), [])), (1, (.v (.sl (List.map GTerm.c a286_)), [])), (5, (.v (.int .i64 b287_), [])), (26, (.v (.bool (!e290_)), []))], [], []⟩ _ (by kernel_rfl) (fun X => by kernel_rfl) (.cons (at_obl (c := GTerm.c) (GTerm.c_eq c288_) GTerm.c_len h495) (.cons (len_ok 4 [.int .i64 c288_.gKind, .str c288_.gName, .int .i64 c288_.gNum, .sl (List.map GTerm.c c288_.gKids)]) (.cons (at_obl (c := GTerm.c) (GTerm.c_eq c289_) GTerm.c_len h496) (.cons (len_ok 4 [.int .i64 c289_.gKind, .str c289_.gName, .int .i64 c289_.gNum, .sl (List.map GTerm.c c289_.gKids)]) (.cons (ih_plaws_eqTerm h497) .nil))))) ?_
              rcases oif h493 with ⟨h498, h493⟩ | ⟨h498, h493⟩
              · refine Wc.condT h498 (by kernel_rfl) ?_
                refine Wc.seq ?_
                refine Wc.region [] [] [4] [] [] ⟨[(4, (.v (.bool false), []))], [], []⟩ _ (by kernel_rfl) .nil ?_
                refine Wc.ret ?_
                obtain rfl := Option.some.inj h493
                obtain rfl := Option.some.inj h
                exact ⟨.inl rfl, by kernel_rfl, by kernel_rfl⟩
              · refine Wc.condF h498 (by kernel_rfl) ?_
                refine Wc.fix (st' := ⟨[(0, (.v (.sl (List.map GTerm.c a285_)), [])), (1, (.v (.sl (List.map GTerm.c a286_)), [])), (5, (.v (.int .i64 b287_), []))], [], []⟩) [] [0, 1, 5] [] [] (by kernel_rfl) ?_
                refine Wc.skip ?_
                refine Wc.region [] [] [0, 1, 5] [] [] ⟨[(0, (.v (.sl (List.map GTerm.c a285_)), [])), (1, (.v (.sl (List.map GTerm.c a286_)), [])), (5, (.v (.int .i64 (wr.i64 (b287_ + 1))), []))], [], []⟩ _ (by kernel_rfl) .nil ?_
                exact ⟨_, Nat.lt_succ_self _, _, rfl, h493⟩
            · refine Wc.condF h494 (by kernel_rfl) ?_
              refine Wc.fix (st' := ⟨[], [], []⟩) [] [] [] [] (by kernel_rfl) ?_
              refine Wc.exit ?_
              obtain rfl := Option.some.inj h493
              exact ⟨rfl, rfl⟩
        · rintro st ⟨rfl, rfl⟩
          refine Wc.seq ?_
          refine Wc.region [] [] [4] [] [] ⟨[(4, (.v (.bool true), []))], [], []⟩ _ (by kernel_rfl) .nil ?_
          refine Wc.ret ?_
          obtain rfl := Option.some.inj h
          exact ⟨.inl rfl, by kernel_rfl, by kernel_rfl⟩
theorem claws_eqTerm {k : Nat} {c282_ : GTerm} {c283_ : GTerm} {r : Bool} (h : plaws_eqTerm k c282_ c283_ = some r) : FnO Tryd.prog 8 [.v (.agg [.int .i64 c282_.gKind, .str c282_.gName, .int .i64 c282_.gNum, .sl (List.map GTerm.c c282_.gKids)]) [], .v (.agg [.int .i64 c283_.gKind, .str c283_.gName, .int .i64 c283_.gNum, .sl (List.map GTerm.c c283_.gKids)]) []] (.v (.bool r) []) [] := (all_plaws_eqTerm k).1 h
theorem claws_eqTermS {k : Nat} {a285_ : List GTerm} {a286_ : List GTerm} {r : Bool} (h : plaws_eqTermS k a285_ a286_ = some r) : FnO Tryd.prog 15 [.v (.sl (List.map GTerm.c a285_)) [], .v (.sl (List.map GTerm.c a286_)) []] (.v (.bool r) []) [] := (all_plaws_eqTerm k).2 h

/-- laws.FnExactWriteTerm -/
def plaws_FnExactWriteTerm (k : Nat) (c291_ : GTerm) : Option Bool :=
  (plaws_szTerm k c291_ 1048576).bind fun b292_ =>
  if (decide (b292_ < 0)) = true then
    some true
  else
    (plaws_toTerm k c291_).bind fun c293_ =>
    (pspec_WriteTerm k c293_).bind fun d294_ =>
    (plaws_toTerm k c291_).bind fun c295_ =>
    (pimpl_WriteTerm k c295_).bind fun d296_ =>
    if (!(sEq d296_ d294_)) = true then
      some false
    else
      (plaws_toTerm k c291_).bind fun c297_ =>
      (plaws_eqTerm k c295_ c297_).bind fun e298_ =>
      if (!e298_) = true then
        some false
      else
        some true
theorem claws_FnExactWriteTerm {k : Nat} {c291_ : GTerm} {r : Bool} (h : plaws_FnExactWriteTerm k c291_ = some r) : FnO Tryd.prog 3 [.v (.agg [.int .i64 c291_.gKind, .str c291_.gName, .int .i64 c291_.gNum, .sl (List.map GTerm.c c291_.gKids)]) []] (.v (.bool r) []) [] := by
  refine FnO.of Tryd.func3 (rfl : Tryd.f3.body = some _) (Nat.le_of_ble_eq_true (by kernel_rfl)) (Nat.le_of_ble_eq_true (by kernel_rfl)) ?_
  intro w0 X0 Fin pv0 pb gt
  unfold plaws_FnExactWriteTerm at h
  refine Wc.seq ?_
  refine Wc.region [] [] [1] [1] [] ⟨[(1, (.ptr 1 0, []))], [(1, .cells [.int .i64 c291_.gKind, .str c291_.gName, .int .i64 c291_.gNum, .sl (List.map GTerm.c c291_.gKids)] [])], []⟩ _ (by kernel_rfl) .nil ?_
  refine Wc.seq ?_
  refine Wc.region [] [] [1, 3] [1] [] ⟨[(1, (.ptr 1 0, [])), (3, (.v (.int .i64 1048576), []))], [(1, .cells [.int .i64 c291_.gKind, .str c291_.gName, .int .i64 c291_.gNum, .sl (List.map GTerm.c c291_.gKids)] [])], []⟩ _ (by kernel_rfl) .nil ?_
  refine Wc.seq ?_
  obtain ⟨b292_, h499, h⟩ := obind h
  refine Wc.region [{}, {}, { r := some (.v (.int .i64 b292_) []) }] [] [1, 3] [1] [] ⟨[(1, (.ptr 1 0, [])), (3, (.v (.int .i64 b292_), []))], [(1, .cells [.int .i64 c291_.gKind, .str c291_.gName, .int .i64 c291_.gNum, .sl (List.map GTerm.c c291_.gKids)] [])], []⟩ _ (by kernel_rfl) (.cons (claws_szTerm h499) .nil) ?_
  refine Wc.seq ?_
  refine Wc.seq ?_
  refine Wc.region [] [] [1, 11] [1] [] ⟨[(1, (.ptr 1 0, [])), (11, (.v (.bool (decide (b292_ < 0))), []))], [(1, .cells [.int .i64 c291_.gKind, .str c291_.gName, .int .i64 c291_.gNum, .sl (List.map GTerm.c c291_.gKids)] [])], []⟩ _ (by kernel_rfl) .nil ?_
  rcases oif h with ⟨h500, h⟩ | ⟨h500, h⟩
  · refine Wc.condT h500 (by kernel_rfl) ?_
    refine Wc.seq ?_
    refine Wc.region [] [] [2] [] [] ⟨[(2, (.v (.bool true), []))], [], []⟩ _ (by kernel_rfl) .nil ?_
    refine Wc.ret ?_
    obtain rfl := Option.some.inj h
    exact ⟨.inl rfl, by kernel_rfl, by kernel_rfl⟩
  · refine Wc.condF h500 (by kernel_rfl) ?_
    refine Wc.fix (st' := ⟨[(1, (.ptr 1 0, []))], [(1, .cells [.int .i64 c291_.gKind, .str c291_.gName, .int .i64 c291_.gNum, .sl (List.map GTerm.c c291_.gKids)] [])], []⟩) [] [1] [1] [] (by kernel_rfl) ?_
    refine Wc.skip ?_
    refine Wc.seq ?_
    obtain ⟨c293_, h501, h⟩ := obind h
    obtain ⟨d294_, h502, h⟩ := obind h
    refine Wc.region [{}, { r := some (.v (.agg [.int .i64 c293_.gKind, .str c293_.gName, .int .i64 c293_.gNum, .sl (List.map GTerm.c c293_.gKids)]) []) }, { r := some (.v (.str d294_) []) }] [] [1, 4] [1] [] ⟨[(1, (.ptr 1 0, [])), (4, (.v (.str d294_), []))], [(1, .cells [.int .i64 c291_.gKind, .str c291_.gName, .int .i64 c291_.gNum, .sl (List.map GTerm.c c291_.gKids)] [])], []⟩ _ (by kernel_rfl) (.cons (claws_toTerm h501) (.cons (cspec_WriteTerm h502) .nil)) ?_
    refine Wc.seq ?_
    obtain ⟨c295_, h503, h⟩ := obind h
    refine Wc.region [{}, { r := some (.v (.agg [.int .i64 c295_.gKind, .str c295_.gName, .int .i64 c295_.gNum, .sl (List.map GTerm.c c295_.gKids)]) []) }] [] [1, 4, 5] [1, 5] [] ⟨[(1, (.ptr 1 0, [])), (4, (.v (.str d294_), [])), (5, (.ptr 5 0, []))], [(1, .cells [.int .i64 c291_.gKind, .str c291_.gName, .int .i64 c291_.gNum, .sl (List.map GTerm.c c291_.gKids)] []), (5, .cells [.int .i64 c295_.gKind, .str c295_.gName, .int .i64 c295_.gNum, .sl (List.map GTerm.c c295_.gKids)] [])], []⟩ _ (by kernel_rfl) (.cons (claws_toTerm h503) .nil) ?_
    refine Wc.seq ?_
    obtain ⟨d296_, h504, h⟩ := obind h
    refine Wc.region [{}, { r := some (.v (.str d296_) []) }] [] [1, 4, 5, 6] [1, 5] [] ⟨[(1, (.ptr 1 0, [])), (4, (.v (.str d294_), [])), (5, (.ptr 5 0, [])), (6, (.v (.str d296_), []))], [(1, .cells [.int .i64 c291_.gKind, .str c291_.gName, .int .i64 c291_.gNum, .sl (List.map GTerm.c c291_.gKids)] []), (5, .cells [.int .i64 c295_.gKind, .str c295_.gName, .int .i64 c295_.gNum, .sl (List.map GTerm.c c295_.gKids)] [])], []⟩ _ (by kernel_rfl) (.cons (cimpl_WriteTerm h504) .nil) ?_
    refine Wc.seq ?_
    refine Wc.seq ?_
    refine Wc.region [] [] [1, 5, 21] [1, 5] [] ⟨[(1, (.ptr 1 0, [])), (5, (.ptr 5 0, [])), (21, (.v (.bool (!(sEq d296_ d294_))), []))], [(1, .cells [.int .i64 c291_.gKind, .str c291_.gName, .int .i64 c291_.gNum, .sl (List.map GTerm.c c291_.gKids)] []), (5, .cells [.int .i64 c295_.gKind, .str c295_.gName, .int .i64 c295_.gNum, .sl (List.map GTerm.c c295_.gKids)] [])], []⟩ _ (by kernel_rfl) .nil ?_
    rcases oif h with ⟨h505, h⟩ | ⟨h505, h⟩
    · refine Wc.condT h505 (by kernel_rfl) ?_
      refine Wc.seq ?_
      refine Wc.region [] [] [2] [] [] ⟨[(2, (.v (.bool false), []))], [], []⟩ _ (by kernel_rfl) .nil ?_
      refine Wc.ret ?_
      obtain rfl := Option.some.inj h
      exact ⟨.inl rfl, by kernel_rfl, by kernel_rfl⟩
    · refine Wc.condF h505 (by kernel_rfl) ?_
      refine Wc.fix (st' := ⟨[(1, (.ptr 1 0, [])), (5, (.ptr 5 0, []))], [(1, .cells [.int .i64 c291_.gKind, .str c291_.gName, .int .i64 c291_.gNum, .sl (List.map GTerm.c c291_.gKids)] []), (5, .cells [.int .i64 c295_.gKind, .str c295_.gName, .int .i64 c295_.gNum, .sl (List.map GTerm.c c295_.gKids)] [])], []⟩) [] [1, 5] [1, 5] [] (by kernel_rfl) ?_
      refine Wc.skip ?_
      refine Wc.seq ?_
      refine Wc.seq ?_
      obtain ⟨c297_, h506, h⟩ := obind h
      obtain ⟨e298_, h507, h⟩ := obind h
      refine Wc.draw hmix [{}, {}, { r := some (.v (.agg [.int .i64 c297_.gKind, .str c297_.gName, .int .i64 c297_.gNum, .sl (List.map GTerm.c c297_.gKids)]) []) }, { r := some (.v (.bool e298_) []) }] [] [26] [] [] ⟨[(26, (.v (.bool (!e298_)), []))], [], []⟩ _ (by kernel_rfl) (fun X => by kernel_rfl) (.cons (claws_toTerm h506) (.cons (claws_eqTerm h507) .nil)) ?_
      rcases oif h with ⟨h508, h⟩ | ⟨h508, h⟩
      · refine Wc.condT h508 (by kernel_rfl) ?_
        refine Wc.seq ?_
        refine Wc.region [] [] [2] [] [] ⟨[(2, (.v (.bool false), []))], [], []⟩ _ (by kernel_rfl) .nil ?_
        refine Wc.ret ?_
        obtain rfl := Option.some.inj h
        exact ⟨.inl rfl, by kernel_rfl, by kernel_rfl⟩
      · refine Wc.condF h508 (by kernel_rfl) ?_
        refine Wc.fix (st' := ⟨[], [], []⟩) [] [] [] [] (by kernel_rfl) ?_
        refine Wc.skip ?_
        refine Wc.seq ?_
        refine Wc.region [] [] [2] [] [] ⟨[(2, (.v (.bool true), []))], [], []⟩ _ (by kernel_rfl) .nil ?_
        refine Wc.ret ?_
        obtain rfl := Option.some.inj h
        exact ⟨.inl rfl, by kernel_rfl, by kernel_rfl⟩
end Go.Proofs.YtmfimfgdbmjkkaaDoor

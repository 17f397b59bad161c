/- What the functions do, part 2. -/
import Derived.Test.YtbfkmgenokhkgaaFna
set_option linter.unusedVariables false
set_option linter.unusedSimpArgs false
namespace Go.Proofs.Ytbfkmgenokhkgaa
open Go.RowKit Go.Bv
def plaws_heldTermS_L1 (k : Nat) (rlaws_heldTermS : (List GTerm) → Int → Option Int) (a249_ : List GTerm) : Nat → Int → Int → Option (Out Int Int)
  | 0, _, _ => none
  | m + 1, b251_, b252_ =>
    if (decide (b252_ < (a249_.length : Int))) = true then
      (at' a249_ b252_).bind fun c254_ =>
      if (c254_.gKind != b251_) = true then
        some (.ret (-1))
      else
        (at' a249_ b252_).bind fun c255_ =>
        (plaws_markText k (wr.i64 (b251_ + 1))).bind fun d256_ =>
        if (!(sEq c255_.gName d256_)) = true then
          some (.ret (-1))
        else
          (at' a249_ b252_).bind fun c257_ =>
          if (c257_.gNum != (wr.i64 ((wr.i64 (b251_ + 1)) + 1))) = true then
            some (.ret (-1))
          else
            (at' a249_ b252_).bind fun c258_ =>
            (rlaws_heldTermS c258_.gKids (wr.i64 ((wr.i64 ((wr.i64 (b251_ + 1)) + 1)) + 1))).bind fun b259_ =>
            if (decide (b259_ < 0)) = true then
              some (.ret (-1))
            else
              plaws_heldTermS_L1 k rlaws_heldTermS a249_ m b259_ (wr.i64 (b252_ + 1))
    else
      some (.done b251_)
mutual
/-- laws.heldTermS -/
def plaws_heldTermS : Nat → (List GTerm) → Int → Option Int
  | 0, _, _ => none
  | k + 1, a249_, b250_ =>
    (plaws_heldTermS_L1 k (plaws_heldTermS k) a249_ k b250_ 0).bind fun out1 => match out1 with
    | .ret r => some r
    | .done b253_ =>
      some b253_
end
theorem all_plaws_heldTermS : ∀ k : Nat, (∀ {a249_ : List GTerm} {b250_ : Int} {r : Int}, plaws_heldTermS k a249_ b250_ = some r → FnO Try.prog 62 [.v (.sl (List.map GTerm.c a249_)) [], .v (.int .i64 b250_) []] (.v (.int .i64 r) []) []) := by
  intro k
  induction k with
  | zero =>
    · intro a249_ b250_ r h
      exact (onone (by rw [plaws_heldTermS] at h; exact h)).elim
  | succ k ih =>
    have ih_plaws_heldTermS := @ih
    · intro a249_ b250_ r h
      rw [plaws_heldTermS] at h
      refine FnO.of Try.func62 (rfl : Try.f62.body = some _) (Nat.le_of_ble_eq_true (by kernel_rfl)) (Nat.le_of_ble_eq_true (by kernel_rfl)) ?_
      intro w0 X0 Fin pv0 pb
      refine Wc.seq ?_
      refine Wc.region [] [] [0, 1] [] [] ⟨[(0, (.v (.sl (List.map GTerm.c a249_)), [])), (1, (.v (.int .i64 b250_), []))], [], []⟩ _ (by kernel_rfl) .nil ?_
      refine Wc.seq ?_
      refine Wc.seq ?_
      refine Wc.region [] [] [0, 1, 5] [] [] ⟨[(0, (.v (.sl (List.map GTerm.c a249_)), [])), (1, (.v (.int .i64 b250_), [])), (5, (.v (.int .i64 0), []))], [], []⟩ _ (by kernel_rfl) .nil ?_
      obtain ⟨out1, h252, h⟩ := obind h
      refine Wc.lastJ (fun st => ∃ (b253_ : Int), out1 = .done b253_ ∧ st = ⟨[(1, (.v (.int .i64 b253_), []))], [], []⟩) ?_ ?_
      · refine Wc.block ?_
        refine Wc.loop (fun m st => ∃ (b251_ : Int) (b252_ : Int), st = ⟨[(0, (.v (.sl (List.map GTerm.c a249_)), [])), (1, (.v (.int .i64 b251_), [])), (5, (.v (.int .i64 b252_), []))], [], []⟩ ∧ plaws_heldTermS_L1 k (plaws_heldTermS k) a249_ m b251_ b252_ = some out1) ?_ k ⟨_, _, rfl, h252⟩
        rintro m st ⟨b251_, b252_, rfl, h252⟩
        cases m with
        | zero => exact (onone h252).elim
        | succ m =>
          refine Wc.seq ?_
          refine Wc.seq ?_
          refine Wc.region [{}, {}, { v := some (.int .i64 (a249_.length : Int)) }] [] [0, 1, 5, 9] [] [] ⟨[(0, (.v (.sl (List.map GTerm.c a249_)), [])), (1, (.v (.int .i64 b251_), [])), (5, (.v (.int .i64 b252_), [])), (9, (.v (.bool (decide (b252_ < (a249_.length : Int)))), []))], [], []⟩ _ (by kernel_rfl) (.cons (len_obl GTerm.c a249_) .nil) ?_
          rcases oif h252 with ⟨h253, h252⟩ | ⟨h253, h252⟩
          · refine Wc.condT h253 (by kernel_rfl) ?_
            refine Wc.fix (st' := ⟨[(0, (.v (.sl (List.map GTerm.c a249_)), [])), (1, (.v (.int .i64 b251_), [])), (5, (.v (.int .i64 b252_), []))], [], []⟩) [] [0, 1, 5] [] [] (by kernel_rfl) ?_
            refine Wc.skip ?_
            refine Wc.seq ?_
            refine Wc.block ?_
            refine Wc.seq ?_
            refine Wc.seq ?_
            obtain ⟨c254_, h254, h252⟩ := obind h252
            refine Wc.region [{}, {}, { v := some (.vptr [.int .i64 c254_.gKind, .str c254_.gName, .int .i64 c254_.gNum, .sl (List.map GTerm.c c254_.gKids)]) }] [] [0, 1, 5, 18] [] [] ⟨[(0, (.v (.sl (List.map GTerm.c a249_)), [])), (1, (.v (.int .i64 b251_), [])), (5, (.v (.int .i64 b252_), [])), (18, (.v (.bool (c254_.gKind != b251_)), []))], [], []⟩ _ (by kernel_rfl) (.cons (at_obl (c := GTerm.c) (GTerm.c_eq c254_) GTerm.c_len h254) (.cons (len_ok 1 [.int .i64 c254_.gKind, .str c254_.gName, .int .i64 c254_.gNum, .sl (List.map GTerm.c c254_.gKids)]) .nil)) ?_
            rcases oif h252 with ⟨h255, h252⟩ | ⟨h255, h252⟩
            · refine Wc.condT h255 (by kernel_rfl) ?_
              refine Wc.seq ?_
              refine Wc.region [] [] [4] [] [] ⟨[(4, (.v (.int .i64 (-1)), []))], [], []⟩ _ (by kernel_rfl) .nil ?_
              refine Wc.ret ?_
              obtain rfl := Option.some.inj h252
              obtain rfl := Option.some.inj h
              exact ⟨.inl rfl, by kernel_rfl, by kernel_rfl⟩
            · refine Wc.condF h255 (by kernel_rfl) ?_
              refine Wc.fix (st' := ⟨[(0, (.v (.sl (List.map GTerm.c a249_)), [])), (1, (.v (.int .i64 b251_), [])), (5, (.v (.int .i64 b252_), []))], [], []⟩) [] [0, 1, 5] [] [] (by kernel_rfl) ?_
              refine Wc.skip ?_
              refine Wc.seq ?_
              refine Wc.region [] [] [0, 1, 5] [] [] ⟨[(0, (.v (.sl (List.map GTerm.c a249_)), [])), (1, (.v (.int .i64 (wr.i64 (b251_ + 1))), [])), (5, (.v (.int .i64 b252_), []))], [], []⟩ _ (by kernel_rfl) .nil ?_
              refine Wc.seq ?_
              refine Wc.seq ?_
              obtain ⟨c255_, h256, h252⟩ := obind h252
              obtain ⟨d256_, h257, h252⟩ := obind h252
              refine Wc.draw hmix [{}, {}, { v := some (.vptr [.int .i64 c255_.gKind, .str c255_.gName, .int .i64 c255_.gNum, .sl (List.map GTerm.c c255_.gKids)]) }, {}, {}, {}, { r := some (.v (.str d256_) []) }] [] [0, 1, 5, 28] [] [] ⟨[(0, (.v (.sl (List.map GTerm.c a249_)), [])), (1, (.v (.int .i64 (wr.i64 (b251_ + 1))), [])), (5, (.v (.int .i64 b252_), [])), (28, (.v (.bool (!(sEq c255_.gName d256_))), []))], [], []⟩ _ (by kernel_rfl) (fun X => by kernel_rfl) (.cons (at_obl (c := GTerm.c) (GTerm.c_eq c255_) GTerm.c_len h256) (.cons (len_ok 1 [.str c255_.gName, .int .i64 c255_.gNum, .sl (List.map GTerm.c c255_.gKids)]) (.cons (claws_markText h257) .nil))) ?_
              rcases oif h252 with ⟨h258, h252⟩ | ⟨h258, h252⟩
              · refine Wc.condT h258 (by kernel_rfl) ?_
                refine Wc.seq ?_
                refine Wc.region [] [] [4] [] [] ⟨[(4, (.v (.int .i64 (-1)), []))], [], []⟩ _ (by kernel_rfl) .nil ?_
                refine Wc.ret ?_
                obtain rfl := Option.some.inj h252
                obtain rfl := Option.some.inj h
                exact ⟨.inl rfl, by kernel_rfl, by kernel_rfl⟩
              · refine Wc.condF h258 (by kernel_rfl) ?_
                refine Wc.fix (st' := ⟨[(0, (.v (.sl (List.map GTerm.c a249_)), [])), (1, (.v (.int .i64 (wr.i64 (b251_ + 1))), [])), (5, (.v (.int .i64 b252_), []))], [], []⟩) [] [0, 1, 5] [] [] (by kernel_rfl) ?_
                refine Wc.skip ?_
                refine Wc.seq ?_
                refine Wc.region [] [] [0, 1, 5] [] [] ⟨[(0, (.v (.sl (List.map GTerm.c a249_)), [])), (1, (.v (.int .i64 (wr.i64 ((wr.i64 (b251_ + 1)) + 1))), [])), (5, (.v (.int .i64 b252_), []))], [], []⟩ _ (by kernel_rfl) .nil ?_
                refine Wc.seq ?_
                refine Wc.seq ?_
                obtain ⟨c257_, h259, h252⟩ := obind h252
                refine Wc.region [{}, {}, { v := some (.vptr [.int .i64 c257_.gKind, .str c257_.gName, .int .i64 c257_.gNum, .sl (List.map GTerm.c c257_.gKids)]) }] [] [0, 1, 5, 37] [] [] ⟨[(0, (.v (.sl (List.map GTerm.c a249_)), [])), (1, (.v (.int .i64 (wr.i64 ((wr.i64 (b251_ + 1)) + 1))), [])), (5, (.v (.int .i64 b252_), [])), (37, (.v (.bool (c257_.gNum != (wr.i64 ((wr.i64 (b251_ + 1)) + 1)))), []))], [], []⟩ _ (by kernel_rfl) (.cons (at_obl (c := GTerm.c) (GTerm.c_eq c257_) GTerm.c_len h259) (.cons (len_ok 1 [.int .i64 c257_.gNum, .sl (List.map GTerm.c c257_.gKids)]) .nil)) ?_
                rcases oif h252 with ⟨h260, h252⟩ | ⟨h260, h252⟩
                · refine Wc.condT h260 (by kernel_rfl) ?_
                  refine Wc.seq ?_
                  refine Wc.region [] [] [4] [] [] ⟨[(4, (.v (.int .i64 (-1)), []))], [], []⟩ _ (by kernel_rfl) .nil ?_
                  refine Wc.ret ?_
                  obtain rfl := Option.some.inj h252
                  obtain rfl := Option.some.inj h
                  exact ⟨.inl rfl, by kernel_rfl, by kernel_rfl⟩
                · refine Wc.condF h260 (by kernel_rfl) ?_
                  refine Wc.fix (st' := ⟨[(0, (.v (.sl (List.map GTerm.c a249_)), [])), (1, (.v (.int .i64 (wr.i64 ((wr.i64 (b251_ + 1)) + 1))), [])), (5, (.v (.int .i64 b252_), []))], [], []⟩) [] [0, 1, 5] [] [] (by kernel_rfl) ?_
                  refine Wc.skip ?_
                  refine Wc.seq ?_
                  refine Wc.region [] [] [0, 1, 5] [] [] ⟨[(0, (.v (.sl (List.map GTerm.c a249_)), [])), (1, (.v (.int .i64 (wr.i64 ((wr.i64 ((wr.i64 (b251_ + 1)) + 1)) + 1))), [])), (5, (.v (.int .i64 b252_), []))], [], []⟩ _ (by kernel_rfl) .nil ?_
                  refine Wc.seq ?_
                  obtain ⟨c258_, h261, h252⟩ := obind h252
                  obtain ⟨b259_, h262, h252⟩ := obind h252
                  refine Wc.region [{}, {}, { v := some (.vptr [.int .i64 c258_.gKind, .str c258_.gName, .int .i64 c258_.gNum, .sl (List.map GTerm.c c258_.gKids)]) }, {}, {}, {}, { r := some (.v (.int .i64 b259_) []) }] [] [0, 1, 5] [] [] ⟨[(0, (.v (.sl (List.map GTerm.c a249_)), [])), (1, (.v (.int .i64 b259_), [])), (5, (.v (.int .i64 b252_), []))], [], []⟩ _ (by kernel_rfl) (.cons (at_obl (c := GTerm.c) (GTerm.c_eq c258_) GTerm.c_len h261) (.cons (len_ok 1 [.sl (List.map GTerm.c c258_.gKids)]) (.cons (ih_plaws_heldTermS h262) .nil))) ?_
                  refine Wc.seq ?_
                  refine Wc.region [] [] [0, 1, 5, 48] [] [] ⟨[(0, (.v (.sl (List.map GTerm.c a249_)), [])), (1, (.v (.int .i64 b259_), [])), (5, (.v (.int .i64 b252_), [])), (48, (.v (.bool (decide (b259_ < 0))), []))], [], []⟩ _ (by kernel_rfl) .nil ?_
                  rcases oif h252 with ⟨h263, h252⟩ | ⟨h263, h252⟩
                  · refine Wc.condT h263 (by kernel_rfl) ?_
                    refine Wc.seq ?_
                    refine Wc.region [] [] [4] [] [] ⟨[(4, (.v (.int .i64 (-1)), []))], [], []⟩ _ (by kernel_rfl) .nil ?_
                    refine Wc.ret ?_
                    obtain rfl := Option.some.inj h252
                    obtain rfl := Option.some.inj h
                    exact ⟨.inl rfl, by kernel_rfl, by kernel_rfl⟩
                  · refine Wc.condF h263 (by kernel_rfl) ?_
                    refine Wc.fix (st' := ⟨[(0, (.v (.sl (List.map GTerm.c a249_)), [])), (1, (.v (.int .i64 b259_), [])), (5, (.v (.int .i64 b252_), []))], [], []⟩) [] [0, 1, 5] [] [] (by kernel_rfl) ?_
                    refine Wc.skip ?_
                    refine Wc.region [] [] [0, 1, 5] [] [] ⟨[(0, (.v (.sl (List.map GTerm.c a249_)), [])), (1, (.v (.int .i64 b259_), [])), (5, (.v (.int .i64 (wr.i64 (b252_ + 1))), []))], [], []⟩ _ (by kernel_rfl) .nil ?_
                    exact ⟨_, Nat.lt_succ_self _, _, _, rfl, h252⟩
          · refine Wc.condF h253 (by kernel_rfl) ?_
            refine Wc.fix (st' := ⟨[(1, (.v (.int .i64 b251_), []))], [], []⟩) [] [1] [] [] (by kernel_rfl) ?_
            refine Wc.exit ?_
            obtain rfl := Option.some.inj h252
            exact ⟨_, rfl, rfl⟩
      · rintro st ⟨b253_, rfl, rfl⟩
        refine Wc.seq ?_
        refine Wc.region [] [] [4] [] [] ⟨[(4, (.v (.int .i64 b253_), []))], [], []⟩ _ (by kernel_rfl) .nil ?_
        refine Wc.ret ?_
        obtain rfl := Option.some.inj h
        exact ⟨.inl rfl, by kernel_rfl, by kernel_rfl⟩
theorem claws_heldTermS {k : Nat} {a249_ : List GTerm} {b250_ : Int} {r : Int} (h : plaws_heldTermS k a249_ b250_ = some r) : FnO Try.prog 62 [.v (.sl (List.map GTerm.c a249_)) [], .v (.int .i64 b250_) []] (.v (.int .i64 r) []) [] := (all_plaws_heldTermS k) h

/-- laws.heldTerm -/
def plaws_heldTerm (k : Nat) (c260_ : GTerm) (b261_ : Int) : Option Int :=
  (plaws_heldTermS k c260_.gKids b261_).bind fun b262_ =>
  if (decide (b262_ < 0)) = true then
    some (-1)
  else
    some b262_
theorem claws_heldTerm {k : Nat} {c260_ : GTerm} {b261_ : Int} {r : Int} (h : plaws_heldTerm k c260_ b261_ = some r) : FnO Try.prog 22 [.v (.agg [.int .i64 c260_.gKind, .str c260_.gName, .int .i64 c260_.gNum, .sl (List.map GTerm.c c260_.gKids)]) [], .v (.int .i64 b261_) []] (.v (.int .i64 r) []) [] := by
  refine FnO.of Try.func22 (rfl : Try.f22.body = some _) (Nat.le_of_ble_eq_true (by kernel_rfl)) (Nat.le_of_ble_eq_true (by kernel_rfl)) ?_
  intro w0 X0 Fin pv0 pb
  unfold plaws_heldTerm at h
  refine Wc.seq ?_
  refine Wc.region [] [] [1, 2] [2] [] ⟨[(1, (.v (.int .i64 b261_), [])), (2, (.ptr 2 0, []))], [(2, .cells [.int .i64 c260_.gKind, .str c260_.gName, .int .i64 c260_.gNum, .sl (List.map GTerm.c c260_.gKids)] [])], []⟩ _ (by kernel_rfl) .nil ?_
  refine Wc.seq ?_
  obtain ⟨b262_, h264, h⟩ := obind h
  refine Wc.region [{}, {}, {}, { r := some (.v (.int .i64 b262_) []) }] [] [1] [] [] ⟨[(1, (.v (.int .i64 b262_), []))], [], []⟩ _ (by kernel_rfl) (.cons (claws_heldTermS h264) .nil) ?_
  refine Wc.seq ?_
  refine Wc.seq ?_
  refine Wc.region [] [] [1, 10] [] [] ⟨[(1, (.v (.int .i64 b262_), [])), (10, (.v (.bool (decide (b262_ < 0))), []))], [], []⟩ _ (by kernel_rfl) .nil ?_
  rcases oif h with ⟨h265, h⟩ | ⟨h265, h⟩
  · refine Wc.condT h265 (by kernel_rfl) ?_
    refine Wc.seq ?_
    refine Wc.region [] [] [4] [] [] ⟨[(4, (.v (.int .i64 (-1)), []))], [], []⟩ _ (by kernel_rfl) .nil ?_
    refine Wc.ret ?_
    obtain rfl := Option.some.inj h
    exact ⟨.inl rfl, by kernel_rfl, by kernel_rfl⟩
  · refine Wc.condF h265 (by kernel_rfl) ?_
    refine Wc.fix (st' := ⟨[(1, (.v (.int .i64 b262_), []))], [], []⟩) [] [1] [] [] (by kernel_rfl) ?_
    refine Wc.skip ?_
    refine Wc.seq ?_
    refine Wc.region [] [] [4] [] [] ⟨[(4, (.v (.int .i64 b262_), []))], [], []⟩ _ (by kernel_rfl) .nil ?_
    refine Wc.ret ?_
    obtain rfl := Option.some.inj h
    exact ⟨.inl rfl, by kernel_rfl, by kernel_rfl⟩

def pimpl_renamed_on1_pimpl_copyTerm_1_d_L2 (k : Nat) (rimpl_renamed_on1_pimpl_copyTerm_1_d : GTerm → Option GTerm) (c272_ : GTerm) : Nat → Int → GTerm → Option (Out GTerm GTerm)
  | 0, _, _ => none
  | m + 1, b274_, c275_ =>
    if (decide (b274_ < (c272_.gKids.length : Int))) = true then
      (at' c272_.gKids b274_).bind fun c277_ =>
      (rimpl_renamed_on1_pimpl_copyTerm_1_d c277_).bind fun c278_ =>
      if c275_.gKids.length + [c278_].length ≤ 1073741824 then
        pimpl_renamed_on1_pimpl_copyTerm_1_d_L2 k rimpl_renamed_on1_pimpl_copyTerm_1_d c272_ m (wr.i64 (b274_ + 1)) (GTerm.mk c275_.gKind c275_.gName c275_.gNum (c275_.gKids ++ [c278_]))
      else none
    else
      some (.done c275_)
def pimpl_renamed_on1_pimpl_copyTerm_1_d_J1 (k : Nat) (rimpl_renamed_on1_pimpl_copyTerm_1_d : GTerm → Option GTerm) (c272_ : GTerm) (c273_ : GTerm) : Option GTerm :=
  (pimpl_renamed_on1_pimpl_copyTerm_1_d_L2 k rimpl_renamed_on1_pimpl_copyTerm_1_d c272_ k 0 c273_).bind fun out2 => match out2 with
  | .ret r => some r
  | .done c276_ =>
    some c276_
mutual
/-- impl.renamed -/
def pimpl_renamed_on1_pimpl_copyTerm_1_d : Nat → GTerm → Option GTerm
  | 0, _ => none
  | k + 1, c272_ =>
    if (c272_.gKind == 1) = true then
      (pimpl_copyTerm_1 k c272_.gNum).bind fun b279_ =>
      pimpl_renamed_on1_pimpl_copyTerm_1_d_J1 k (pimpl_renamed_on1_pimpl_copyTerm_1_d k) c272_ (GTerm.mk c272_.gKind c272_.gName b279_ [])
    else
      pimpl_renamed_on1_pimpl_copyTerm_1_d_J1 k (pimpl_renamed_on1_pimpl_copyTerm_1_d k) c272_ (GTerm.mk c272_.gKind c272_.gName c272_.gNum [])
end
theorem all_pimpl_renamed_on1_pimpl_copyTerm_1_d : ∀ k : Nat, (∀ {c272_ : GTerm} {r : GTerm}, pimpl_renamed_on1_pimpl_copyTerm_1_d k c272_ = some r → FnO Try.prog 97 [.v (.agg [.int .i64 c272_.gKind, .str c272_.gName, .int .i64 c272_.gNum, .sl (List.map GTerm.c c272_.gKids)]) [], .v (.func 98 []) []] (.v (.agg [.int .i64 r.gKind, .str r.gName, .int .i64 r.gNum, .slx]) [(3, .ex 37 true (List.map GTerm.c r.gKids))]) []) := by
  intro k
  induction k with
  | zero =>
    · intro c272_ r h
      exact (onone (by rw [pimpl_renamed_on1_pimpl_copyTerm_1_d] at h; exact h)).elim
  | succ k ih =>
    have ih_pimpl_renamed_on1_pimpl_copyTerm_1_d := @ih
    · intro c272_ r h
      rw [pimpl_renamed_on1_pimpl_copyTerm_1_d] at h
      refine FnO.of Try.func97 (rfl : Try.f97.body = some _) (Nat.le_of_ble_eq_true (by kernel_rfl)) (Nat.le_of_ble_eq_true (by kernel_rfl)) ?_
      intro w0 X0 Fin pv0 pb
      refine Wc.seq ?_
      refine Wc.region [] [] [1, 2, 4] [2, 4] [] ⟨[(1, (.v (.func 98 []), [])), (2, (.ptr 2 0, [])), (4, (.ptr 4 0, []))], [(2, .cells [.int .i64 c272_.gKind, .str c272_.gName, .int .i64 c272_.gNum, .sl (List.map GTerm.c c272_.gKids)] []), (4, .cells [.int .i64 0, .str (bs []), .int .i64 0, .sl (List.map GTerm.c [])] [(3, .app 37)])], []⟩ _ (by kernel_rfl) .nil ?_
      refine Wc.seq ?_
      refine Wc.region [] [] [1, 2, 4, 5] [2, 4, 5] [] ⟨[(1, (.v (.func 98 []), [])), (2, (.ptr 2 0, [])), (4, (.ptr 4 0, [])), (5, (.ptr 5 0, []))], [(2, .cells [.int .i64 c272_.gKind, .str c272_.gName, .int .i64 c272_.gNum, .sl (List.map GTerm.c c272_.gKids)] []), (4, .cells [.int .i64 0, .str (bs []), .int .i64 0, .sl (List.map GTerm.c [])] [(3, .app 37)]), (5, .cells [.int .i64 c272_.gKind, .str c272_.gName, .int .i64 c272_.gNum, .sl (List.map GTerm.c c272_.gKids)] [])], []⟩ _ (by kernel_rfl) .nil ?_
      refine Wc.seq ?_
      refine Wc.region [] [] [1, 2, 4, 5] [2, 4, 5] [] ⟨[(1, (.v (.func 98 []), [])), (2, (.ptr 2 0, [])), (4, (.ptr 4 0, [])), (5, (.ptr 5 0, []))], [(2, .cells [.int .i64 c272_.gKind, .str c272_.gName, .int .i64 c272_.gNum, .sl (List.map GTerm.c c272_.gKids)] []), (4, .cells [.int .i64 0, .str (bs []), .int .i64 0, .sl (List.map GTerm.c [])] [(3, .app 37)]), (5, .cells [.int .i64 c272_.gKind, .str c272_.gName, .int .i64 c272_.gNum, .sl (List.map GTerm.c [])] [(3, .app 37)])], []⟩ _ (by kernel_rfl) .nil ?_
      refine Wc.seqJ (fun st => ∃ (c273_ : GTerm), st = ⟨[(1, (.v (.func 98 []), [])), (2, (.ptr 2 0, [])), (4, (.ptr 4 0, [])), (5, (.ptr 5 0, []))], [(2, .cells [.int .i64 c272_.gKind, .str c272_.gName, .int .i64 c272_.gNum, .sl (List.map GTerm.c c272_.gKids)] []), (4, .cells [.int .i64 0, .str (bs []), .int .i64 0, .slx] [(3, .ex 37 true (List.map GTerm.c []))]), (5, .cells [.int .i64 c273_.gKind, .str c273_.gName, .int .i64 c273_.gNum, .slx] [(3, .ex 37 true (List.map GTerm.c c273_.gKids))])], []⟩ ∧ pimpl_renamed_on1_pimpl_copyTerm_1_d_J1 k (pimpl_renamed_on1_pimpl_copyTerm_1_d k) c272_ c273_ = some r) ?_ ?_
      · refine Wc.seq ?_
        refine Wc.region [] [] [1, 2, 4, 5, 12] [2, 4, 5] [] ⟨[(1, (.v (.func 98 []), [])), (2, (.ptr 2 0, [])), (4, (.ptr 4 0, [])), (5, (.ptr 5 0, [])), (12, (.v (.bool (c272_.gKind == 1)), []))], [(2, .cells [.int .i64 c272_.gKind, .str c272_.gName, .int .i64 c272_.gNum, .sl (List.map GTerm.c c272_.gKids)] []), (4, .cells [.int .i64 0, .str (bs []), .int .i64 0, .sl (List.map GTerm.c [])] [(3, .app 37)]), (5, .cells [.int .i64 c272_.gKind, .str c272_.gName, .int .i64 c272_.gNum, .sl (List.map GTerm.c [])] [(3, .app 37)])], []⟩ _ (by kernel_rfl) .nil ?_
        rcases oif h with ⟨h278, h⟩ | ⟨h278, h⟩
        · refine Wc.condT h278 (by kernel_rfl) ?_
          obtain ⟨b279_, h279, h⟩ := obind h
          refine Wc.region [{}, {}, {}, { r := some (.v (.int .i64 b279_) []) }] [.ow (.b 4 3) true, .ow (.b 5 3) true] [1, 2, 4, 5] [2, 4, 5] [] ⟨[(1, (.v (.func 98 []), [])), (2, (.ptr 2 0, [])), (4, (.ptr 4 0, [])), (5, (.ptr 5 0, []))], [(2, .cells [.int .i64 c272_.gKind, .str c272_.gName, .int .i64 c272_.gNum, .sl (List.map GTerm.c c272_.gKids)] []), (4, .cells [.int .i64 0, .str (bs []), .int .i64 0, .slx] [(3, .ex 37 true (List.map GTerm.c []))]), (5, .cells [.int .i64 c272_.gKind, .str c272_.gName, .int .i64 b279_, .slx] [(3, .ex 37 true (List.map GTerm.c []))])], []⟩ _ (by kernel_rfl) (.cons (cimpl_copyTerm_1 h279) .nil) ?_
          exact ⟨_, rfl, h⟩
        · refine Wc.condF h278 (by kernel_rfl) ?_
          refine Wc.fix (st' := ⟨[(1, (.v (.func 98 []), [])), (2, (.ptr 2 0, [])), (4, (.ptr 4 0, [])), (5, (.ptr 5 0, []))], [(2, .cells [.int .i64 c272_.gKind, .str c272_.gName, .int .i64 c272_.gNum, .sl (List.map GTerm.c c272_.gKids)] []), (4, .cells [.int .i64 0, .str (bs []), .int .i64 0, .slx] [(3, .ex 37 true (List.map GTerm.c []))]), (5, .cells [.int .i64 c272_.gKind, .str c272_.gName, .int .i64 c272_.gNum, .slx] [(3, .ex 37 true (List.map GTerm.c []))])], []⟩) [.ow (.b 4 3) true, .ow (.b 5 3) true] [1, 2, 4, 5] [2, 4, 5] [] (by kernel_rfl) ?_
          refine Wc.skip ?_
          exact ⟨_, rfl, h⟩
      · rintro st ⟨c273_, rfl, h⟩
        refine Wc.seq ?_
        refine Wc.seq ?_
        refine Wc.region [{}, {}, { v := some (.int .i64 (c272_.gKids.length : Int)) }] [] [1, 4, 5, 19, 20, 21] [4, 5] [] ⟨[(1, (.v (.func 98 []), [])), (4, (.ptr 4 0, [])), (5, (.ptr 5 0, [])), (19, (.v (.sl (List.map GTerm.c c272_.gKids)), [])), (20, (.v (.int .i64 (c272_.gKids.length : Int)), [])), (21, (.v (.int .i64 0), []))], [(4, .cells [.int .i64 0, .str (bs []), .int .i64 0, .slx] [(3, .ex 37 true (List.map GTerm.c []))]), (5, .cells [.int .i64 c273_.gKind, .str c273_.gName, .int .i64 c273_.gNum, .slx] [(3, .ex 37 true (List.map GTerm.c c273_.gKids))])], []⟩ _ (by kernel_rfl) (.cons (len_obl GTerm.c c272_.gKids) .nil) ?_
        obtain ⟨out2, h273, h⟩ := obind h
        refine Wc.lastJ (fun st => ∃ (c276_ : GTerm), out2 = .done c276_ ∧ st = ⟨[(4, (.ptr 4 0, [])), (5, (.ptr 5 0, []))], [(4, .cells [.int .i64 0, .str (bs []), .int .i64 0, .slx] [(3, .ex 37 true (List.map GTerm.c []))]), (5, .cells [.int .i64 c276_.gKind, .str c276_.gName, .int .i64 c276_.gNum, .slx] [(3, .ex 37 true (List.map GTerm.c c276_.gKids))])], []⟩) ?_ ?_
        · refine Wc.block ?_
          refine Wc.loop (fun m st => ∃ (b274_ : Int) (c275_ : GTerm), st = ⟨[(1, (.v (.func 98 []), [])), (4, (.ptr 4 0, [])), (5, (.ptr 5 0, [])), (19, (.v (.sl (List.map GTerm.c c272_.gKids)), [])), (20, (.v (.int .i64 (c272_.gKids.length : Int)), [])), (21, (.v (.int .i64 b274_), []))], [(4, .cells [.int .i64 0, .str (bs []), .int .i64 0, .slx] [(3, .ex 37 true (List.map GTerm.c []))]), (5, .cells [.int .i64 c275_.gKind, .str c275_.gName, .int .i64 c275_.gNum, .slx] [(3, .ex 37 true (List.map GTerm.c c275_.gKids))])], []⟩ ∧ pimpl_renamed_on1_pimpl_copyTerm_1_d_L2 k (pimpl_renamed_on1_pimpl_copyTerm_1_d k) c272_ m b274_ c275_ = some out2) ?_ k ⟨_, _, rfl, h273⟩
          rintro m st ⟨b274_, c275_, rfl, h273⟩
          cases m with
          | zero => exact (onone h273).elim
          | succ m =>
            refine Wc.seq ?_
            refine Wc.region [] [] [1, 4, 5, 19, 20, 21, 22] [4, 5] [] ⟨[(1, (.v (.func 98 []), [])), (4, (.ptr 4 0, [])), (5, (.ptr 5 0, [])), (19, (.v (.sl (List.map GTerm.c c272_.gKids)), [])), (20, (.v (.int .i64 (c272_.gKids.length : Int)), [])), (21, (.v (.int .i64 b274_), [])), (22, (.v (.bool (decide (b274_ < (c272_.gKids.length : Int)))), []))], [(4, .cells [.int .i64 0, .str (bs []), .int .i64 0, .slx] [(3, .ex 37 true (List.map GTerm.c []))]), (5, .cells [.int .i64 c275_.gKind, .str c275_.gName, .int .i64 c275_.gNum, .slx] [(3, .ex 37 true (List.map GTerm.c c275_.gKids))])], []⟩ _ (by kernel_rfl) .nil ?_
            refine Wc.seq ?_
            rcases oif h273 with ⟨h274, h273⟩ | ⟨h274, h273⟩
            · refine Wc.condT h274 (by kernel_rfl) ?_
              refine Wc.fix (st' := ⟨[(1, (.v (.func 98 []), [])), (4, (.ptr 4 0, [])), (5, (.ptr 5 0, [])), (19, (.v (.sl (List.map GTerm.c c272_.gKids)), [])), (20, (.v (.int .i64 (c272_.gKids.length : Int)), [])), (21, (.v (.int .i64 b274_), []))], [(4, .cells [.int .i64 0, .str (bs []), .int .i64 0, .slx] [(3, .ex 37 true (List.map GTerm.c []))]), (5, .cells [.int .i64 c275_.gKind, .str c275_.gName, .int .i64 c275_.gNum, .slx] [(3, .ex 37 true (List.map GTerm.c c275_.gKids))])], []⟩) [] [1, 4, 5, 19, 20, 21] [4, 5] [] (by kernel_rfl) ?_
              refine Wc.skip ?_
              refine Wc.seq ?_
              refine Wc.block ?_
              refine Wc.seq ?_
              obtain ⟨c277_, h275, h273⟩ := obind h273
              refine Wc.region [{ v := some (.vptr [.int .i64 c277_.gKind, .str c277_.gName, .int .i64 c277_.gNum, .sl (List.map GTerm.c c277_.gKids)]) }] [] [1, 4, 5, 7, 19, 20, 21] [4, 5, 7] [] ⟨[(1, (.v (.func 98 []), [])), (4, (.ptr 4 0, [])), (5, (.ptr 5 0, [])), (7, (.ptr 7 0, [])), (19, (.v (.sl (List.map GTerm.c c272_.gKids)), [])), (20, (.v (.int .i64 (c272_.gKids.length : Int)), [])), (21, (.v (.int .i64 b274_), []))], [(4, .cells [.int .i64 0, .str (bs []), .int .i64 0, .slx] [(3, .ex 37 true (List.map GTerm.c []))]), (5, .cells [.int .i64 c275_.gKind, .str c275_.gName, .int .i64 c275_.gNum, .slx] [(3, .ex 37 true (List.map GTerm.c c275_.gKids))]), (7, .cells [.int .i64 c277_.gKind, .str c277_.gName, .int .i64 c277_.gNum, .sl (List.map GTerm.c c277_.gKids)] [])], []⟩ _ (by kernel_rfl) (.cons (at_obl (c := GTerm.c) (GTerm.c_eq c277_) GTerm.c_len h275) (.cons (len_ok 4 [.int .i64 c277_.gKind, .str c277_.gName, .int .i64 c277_.gNum, .sl (List.map GTerm.c c277_.gKids)]) .nil)) ?_
              obtain ⟨c278_, h276, h273⟩ := obind h273
              obtain ⟨h277, h273⟩ := oguard h273
              refine Wc.draw hmix [{}, { md := 1 }, {}, {}, { r := some (.v (.agg [.int .i64 c278_.gKind, .str c278_.gName, .int .i64 c278_.gNum, .slx]) [(3, .ex 37 true (List.map GTerm.c c278_.gKids))]) }, { c := some (List.map GTerm.c [c278_]), tk := [29], md := 2 }, { c := some (List.map GTerm.c (c275_.gKids ++ [c278_])), tk := [26, 30], md := 2 }, {}, { tk := [31] }] [] [1, 4, 5, 19, 20, 21] [4, 5] [] ⟨[(1, (.v (.func 98 []), [])), (4, (.ptr 4 0, [])), (5, (.ptr 5 0, [])), (19, (.v (.sl (List.map GTerm.c c272_.gKids)), [])), (20, (.v (.int .i64 (c272_.gKids.length : Int)), [])), (21, (.v (.int .i64 b274_), []))], [(4, .cells [.int .i64 0, .str (bs []), .int .i64 0, .slx] [(3, .ex 37 true (List.map GTerm.c []))]), (5, .cells [.int .i64 c275_.gKind, .str c275_.gName, .int .i64 c275_.gNum, .slx] [(3, .ex 37 true (List.map GTerm.c (c275_.gKids ++ [c278_])))])], []⟩ _ (by kernel_rfl) (fun X => by kernel_rfl) (.cons (ih_pimpl_renamed_on1_pimpl_copyTerm_1_d h276) (.cons (cl_cons (c := GTerm.c) (x := c278_) (GTerm.c_eq c278_) (cl_nil GTerm.c)) (.cons (app_re2 GTerm.c c275_.gKids [c278_]) (.cons (app_obl2 (c := GTerm.c) (xs := c275_.gKids) (ys := [c278_]) GTerm.c_len h277) .nil)))) ?_
              refine Wc.region [] [] [1, 4, 5, 19, 20, 21] [4, 5] [] ⟨[(1, (.v (.func 98 []), [])), (4, (.ptr 4 0, [])), (5, (.ptr 5 0, [])), (19, (.v (.sl (List.map GTerm.c c272_.gKids)), [])), (20, (.v (.int .i64 (c272_.gKids.length : Int)), [])), (21, (.v (.int .i64 (wr.i64 (b274_ + 1))), []))], [(4, .cells [.int .i64 0, .str (bs []), .int .i64 0, .slx] [(3, .ex 37 true (List.map GTerm.c []))]), (5, .cells [.int .i64 c275_.gKind, .str c275_.gName, .int .i64 c275_.gNum, .slx] [(3, .ex 37 true (List.map GTerm.c (c275_.gKids ++ [c278_])))])], []⟩ _ (by kernel_rfl) .nil ?_
              exact ⟨_, Nat.lt_succ_self _, _, _, rfl, h273⟩
            · refine Wc.condF h274 (by kernel_rfl) ?_
              refine Wc.fix (st' := ⟨[(4, (.ptr 4 0, [])), (5, (.ptr 5 0, []))], [(4, .cells [.int .i64 0, .str (bs []), .int .i64 0, .slx] [(3, .ex 37 true (List.map GTerm.c []))]), (5, .cells [.int .i64 c275_.gKind, .str c275_.gName, .int .i64 c275_.gNum, .slx] [(3, .ex 37 true (List.map GTerm.c c275_.gKids))])], []⟩) [] [4, 5] [4, 5] [] (by kernel_rfl) ?_
              refine Wc.exit ?_
              obtain rfl := Option.some.inj h273
              exact ⟨_, rfl, rfl⟩
        · rintro st ⟨c276_, rfl, rfl⟩
          refine Wc.seq ?_
          refine Wc.region [{ md := 1 }, { tk := [34] }] [] [4] [4] [] ⟨[(4, (.ptr 4 0, []))], [(4, .cells [.int .i64 c276_.gKind, .str c276_.gName, .int .i64 c276_.gNum, .slx] [(3, .ex 37 true (List.map GTerm.c c276_.gKids))])], []⟩ _ (by kernel_rfl) .nil ?_
          refine Wc.ret ?_
          obtain rfl := Option.some.inj h
          exact ⟨.inl rfl, by kernel_rfl, by kernel_rfl⟩
theorem cimpl_renamed_on1_pimpl_copyTerm_1_d {k : Nat} {c272_ : GTerm} {r : GTerm} (h : pimpl_renamed_on1_pimpl_copyTerm_1_d k c272_ = some r) : FnO Try.prog 97 [.v (.agg [.int .i64 c272_.gKind, .str c272_.gName, .int .i64 c272_.gNum, .sl (List.map GTerm.c c272_.gKids)]) [], .v (.func 98 []) []] (.v (.agg [.int .i64 r.gKind, .str r.gName, .int .i64 r.gNum, .slx]) [(3, .ex 37 true (List.map GTerm.c r.gKids))]) [] := (all_pimpl_renamed_on1_pimpl_copyTerm_1_d k) h

/-- impl.copyTerm -/
def pimpl_copyTerm_d (k : Nat) (c269_ : GTerm) : Option GTerm :=
  (pimpl_renamed_on1_pimpl_copyTerm_1_d k c269_).bind fun c270_ =>
  some c270_
theorem cimpl_copyTerm_d {k : Nat} {c269_ : GTerm} {r : GTerm} (h : pimpl_copyTerm_d k c269_ = some r) : FnO Try.prog 58 [.v (.agg [.int .i64 c269_.gKind, .str c269_.gName, .int .i64 c269_.gNum, .sl (List.map GTerm.c c269_.gKids)]) []] (.v (.agg [.int .i64 r.gKind, .str r.gName, .int .i64 r.gNum, .slx]) [(3, .ex 37 true (List.map GTerm.c r.gKids))]) [] := by
  refine FnO.of Try.func58 (rfl : Try.f58.body = some _) (Nat.le_of_ble_eq_true (by kernel_rfl)) (Nat.le_of_ble_eq_true (by kernel_rfl)) ?_
  intro w0 X0 Fin pv0 pb
  unfold pimpl_copyTerm_d at h
  refine Wc.seq ?_
  refine Wc.region [] [] [1, 2] [1, 2] [] ⟨[(1, (.ptr 1 0, [])), (2, (.ptr 2 0, []))], [(1, .cells [.int .i64 c269_.gKind, .str c269_.gName, .int .i64 c269_.gNum, .sl (List.map GTerm.c c269_.gKids)] []), (2, .cells [.int .i64 0, .str (bs []), .int .i64 0, .sl (List.map GTerm.c [])] [(3, .app 37)])], []⟩ _ (by kernel_rfl) .nil ?_
  refine Wc.seq ?_
  obtain ⟨c270_, h269, h⟩ := obind h
  refine Wc.region [{}, { r := some (.v (.agg [.int .i64 c270_.gKind, .str c270_.gName, .int .i64 c270_.gNum, .slx]) [(3, .ex 37 true (List.map GTerm.c c270_.gKids))]) }, { tk := [4] }] [] [2] [2] [] ⟨[(2, (.ptr 2 0, []))], [(2, .cells [.int .i64 c270_.gKind, .str c270_.gName, .int .i64 c270_.gNum, .slx] [(3, .ex 37 true (List.map GTerm.c c270_.gKids))])], []⟩ _ (by kernel_rfl) (.cons (cimpl_renamed_on1_pimpl_copyTerm_1_d h269) .nil) ?_
  refine Wc.ret ?_
  obtain rfl := Option.some.inj h
  exact ⟨.inl rfl, by kernel_rfl, by kernel_rfl⟩

/-- impl.structure -/
def pimpl_structure_d (k : Nat) (d270_ : ByteArray) (a271_ : List GTerm) : Option GTerm :=
  some (GTerm.mk 4 d270_ 0 a271_)
theorem cimpl_structure_d {k : Nat} {d270_ : ByteArray} {a271_ : List GTerm} {r : GTerm} (h : pimpl_structure_d k d270_ a271_ = some r) : FnO Try.prog 96 [.v (.str d270_) [], .v (.slx) [(0, .ex 37 true (List.map GTerm.c a271_))]] (.v (.agg [.int .i64 r.gKind, .str r.gName, .int .i64 r.gNum, .slx]) [(3, .ex 37 true (List.map GTerm.c r.gKids))]) [] := by
  refine FnO.of Try.func96 (rfl : Try.f96.body = some _) (Nat.le_of_ble_eq_true (by kernel_rfl)) (Nat.le_of_ble_eq_true (by kernel_rfl)) ?_
  intro w0 X0 Fin pv0 pb
  unfold pimpl_structure_d at h
  refine Wc.seq ?_
  refine Wc.region [] [] [0, 1, 4] [4] [] ⟨[(0, (.v (.str d270_), [])), (1, (.v (.slx), [(0, .ex 37 true (List.map GTerm.c a271_))])), (4, (.ptr 4 0, []))], [(4, .cells [.int .i64 0, .str (bs []), .int .i64 0, .sl (List.map GTerm.c [])] [(3, .app 37)])], []⟩ _ (by kernel_rfl) .nil ?_
  refine Wc.seq ?_
  refine Wc.region [{}, { tk := [1] }, { tk := [6] }, { tk := [7] }] [] [4] [4] [] ⟨[(4, (.ptr 4 0, []))], [(4, .cells [.int .i64 4, .str d270_, .int .i64 0, .slx] [(3, .ex 37 true (List.map GTerm.c a271_))])], []⟩ _ (by kernel_rfl) .nil ?_
  refine Wc.ret ?_
  obtain rfl := Option.some.inj h
  exact ⟨.inl rfl, by kernel_rfl, by kernel_rfl⟩

def pimpl_listOf_d_L1 (k : Nat) (a276_ : List GTerm) : Nat → Int → GTerm → Option (Out GTerm GTerm)
  | 0, _, _ => none
  | m + 1, b278_, c279_ =>
    if (decide (b278_ ≥ 0)) = true then
      (at' a276_ b278_).bind fun c281_ =>
      (pimpl_copyTerm_d k c281_).bind fun c282_ =>
      (pimpl_structure_d k (bs [46]) [c282_, c279_]).bind fun c283_ =>
      pimpl_listOf_d_L1 k a276_ m (wr.i64 (b278_ - 1)) c283_
    else
      some (.done c279_)
/-- impl.listOf -/
def pimpl_listOf_d (k : Nat) (a276_ : List GTerm) (c277_ : GTerm) : Option GTerm :=
  (pimpl_listOf_d_L1 k a276_ k (wr.i64 ((a276_.length : Int) - 1)) c277_).bind fun out1 => match out1 with
  | .ret r => some r
  | .done c280_ =>
    some c280_
theorem cimpl_listOf_d {k : Nat} {a276_ : List GTerm} {c277_ : GTerm} {r : GTerm} (h : pimpl_listOf_d k a276_ c277_ = some r) : FnO Try.prog 57 [.v (.sl (List.map GTerm.c a276_)) [], .v (.agg [.int .i64 c277_.gKind, .str c277_.gName, .int .i64 c277_.gNum, .slx]) [(3, .ex 37 true (List.map GTerm.c c277_.gKids))]] (.v (.agg [.int .i64 r.gKind, .str r.gName, .int .i64 r.gNum, .slx]) [(3, .ex 37 true (List.map GTerm.c r.gKids))]) [] := by
  refine FnO.of Try.func57 (rfl : Try.f57.body = some _) (Nat.le_of_ble_eq_true (by kernel_rfl)) (Nat.le_of_ble_eq_true (by kernel_rfl)) ?_
  intro w0 X0 Fin pv0 pb
  unfold pimpl_listOf_d at h
  refine Wc.seq ?_
  refine Wc.region [{ tk := [1] }] [] [0, 3, 4] [3, 4] [] ⟨[(0, (.v (.sl (List.map GTerm.c a276_)), [])), (3, (.ptr 3 0, [])), (4, (.ptr 4 0, []))], [(3, .cells [.int .i64 c277_.gKind, .str c277_.gName, .int .i64 c277_.gNum, .slx] [(3, .ex 37 true (List.map GTerm.c c277_.gKids))]), (4, .cells [.int .i64 0, .str (bs []), .int .i64 0, .sl (List.map GTerm.c [])] [(3, .app 37)])], []⟩ _ (by kernel_rfl) .nil ?_
  refine Wc.seq ?_
  refine Wc.seq ?_
  refine Wc.region [{}, { v := some (.int .i64 (a276_.length : Int)) }] [] [0, 3, 4, 5] [3, 4] [] ⟨[(0, (.v (.sl (List.map GTerm.c a276_)), [])), (3, (.ptr 3 0, [])), (4, (.ptr 4 0, [])), (5, (.v (.int .i64 (wr.i64 ((a276_.length : Int) - 1))), []))], [(3, .cells [.int .i64 c277_.gKind, .str c277_.gName, .int .i64 c277_.gNum, .slx] [(3, .ex 37 true (List.map GTerm.c c277_.gKids))]), (4, .cells [.int .i64 0, .str (bs []), .int .i64 0, .sl (List.map GTerm.c [])] [(3, .app 37)])], []⟩ _ (by kernel_rfl) (.cons (len_obl GTerm.c a276_) .nil) ?_
  obtain ⟨out1, h274, h⟩ := obind h
  refine Wc.lastJ (fun st => ∃ (c280_ : GTerm), out1 = .done c280_ ∧ st = ⟨[(3, (.ptr 3 0, [])), (4, (.ptr 4 0, []))], [(3, .cells [.int .i64 c280_.gKind, .str c280_.gName, .int .i64 c280_.gNum, .slx] [(3, .ex 37 true (List.map GTerm.c c280_.gKids))]), (4, .cells [.int .i64 0, .str (bs []), .int .i64 0, .slx] [(3, .ex 37 true (List.map GTerm.c []))])], []⟩) ?_ ?_
  · refine Wc.block ?_
    refine Wc.fix (st' := ⟨[(0, (.v (.sl (List.map GTerm.c a276_)), [])), (3, (.ptr 3 0, [])), (4, (.ptr 4 0, [])), (5, (.v (.int .i64 (wr.i64 ((a276_.length : Int) - 1))), []))], [(3, .cells [.int .i64 c277_.gKind, .str c277_.gName, .int .i64 c277_.gNum, .slx] [(3, .ex 37 true (List.map GTerm.c c277_.gKids))]), (4, .cells [.int .i64 0, .str (bs []), .int .i64 0, .slx] [(3, .ex 37 true (List.map GTerm.c []))])], []⟩) [.ow (.b 4 3) true] [0, 3, 4, 5] [3, 4] [] (by kernel_rfl) ?_
    refine Wc.loop (fun m st => ∃ (b278_ : Int) (c279_ : GTerm), st = ⟨[(0, (.v (.sl (List.map GTerm.c a276_)), [])), (3, (.ptr 3 0, [])), (4, (.ptr 4 0, [])), (5, (.v (.int .i64 b278_), []))], [(3, .cells [.int .i64 c279_.gKind, .str c279_.gName, .int .i64 c279_.gNum, .slx] [(3, .ex 37 true (List.map GTerm.c c279_.gKids))]), (4, .cells [.int .i64 0, .str (bs []), .int .i64 0, .slx] [(3, .ex 37 true (List.map GTerm.c []))])], []⟩ ∧ pimpl_listOf_d_L1 k a276_ m b278_ c279_ = some out1) ?_ k ⟨_, _, rfl, h274⟩
    rintro m st ⟨b278_, c279_, rfl, h274⟩
    cases m with
    | zero => exact (onone h274).elim
    | succ m =>
      refine Wc.seq ?_
      refine Wc.seq ?_
      refine Wc.region [] [] [0, 3, 4, 5, 10] [3, 4] [] ⟨[(0, (.v (.sl (List.map GTerm.c a276_)), [])), (3, (.ptr 3 0, [])), (4, (.ptr 4 0, [])), (5, (.v (.int .i64 b278_), [])), (10, (.v (.bool (decide (b278_ ≥ 0))), []))], [(3, .cells [.int .i64 c279_.gKind, .str c279_.gName, .int .i64 c279_.gNum, .slx] [(3, .ex 37 true (List.map GTerm.c c279_.gKids))]), (4, .cells [.int .i64 0, .str (bs []), .int .i64 0, .slx] [(3, .ex 37 true (List.map GTerm.c []))])], []⟩ _ (by kernel_rfl) .nil ?_
      rcases oif h274 with ⟨h275, h274⟩ | ⟨h275, h274⟩
      · refine Wc.condT h275 (by kernel_rfl) ?_
        refine Wc.fix (st' := ⟨[(0, (.v (.sl (List.map GTerm.c a276_)), [])), (3, (.ptr 3 0, [])), (4, (.ptr 4 0, [])), (5, (.v (.int .i64 b278_), []))], [(3, .cells [.int .i64 c279_.gKind, .str c279_.gName, .int .i64 c279_.gNum, .slx] [(3, .ex 37 true (List.map GTerm.c c279_.gKids))]), (4, .cells [.int .i64 0, .str (bs []), .int .i64 0, .slx] [(3, .ex 37 true (List.map GTerm.c []))])], []⟩) [] [0, 3, 4, 5] [3, 4] [] (by kernel_rfl) ?_
        refine Wc.skip ?_
        refine Wc.seq ?_
        refine Wc.block ?_
        obtain ⟨c281_, h276, h274⟩ := obind h274
        obtain ⟨c282_, h277, h274⟩ := obind h274
        obtain ⟨c283_, h278, h274⟩ := obind h274
        refine Wc.draw hmix [{}, {}, { v := some (.vptr [.int .i64 c281_.gKind, .str c281_.gName, .int .i64 c281_.gNum, .sl (List.map GTerm.c c281_.gKids)]) }, {}, { r := some (.v (.agg [.int .i64 c282_.gKind, .str c282_.gName, .int .i64 c282_.gNum, .slx]) [(3, .ex 37 true (List.map GTerm.c c282_.gKids))]) }, { md := 1 }, { c := some (List.map GTerm.c [c282_, c279_]), tk := [17, 18], md := 2 }, { tk := [19], r := some (.v (.agg [.int .i64 c283_.gKind, .str c283_.gName, .int .i64 c283_.gNum, .slx]) [(3, .ex 37 true (List.map GTerm.c c283_.gKids))]) }, { tk := [20] }] [] [0, 3, 4, 5] [3, 4] [] ⟨[(0, (.v (.sl (List.map GTerm.c a276_)), [])), (3, (.ptr 3 0, [])), (4, (.ptr 4 0, [])), (5, (.v (.int .i64 b278_), []))], [(3, .cells [.int .i64 c283_.gKind, .str c283_.gName, .int .i64 c283_.gNum, .slx] [(3, .ex 37 true (List.map GTerm.c c283_.gKids))]), (4, .cells [.int .i64 0, .str (bs []), .int .i64 0, .slx] [(3, .ex 37 true (List.map GTerm.c []))])], []⟩ _ (by kernel_rfl) (fun X => by kernel_rfl) (.cons (at_obl (c := GTerm.c) (GTerm.c_eq c281_) GTerm.c_len h276) (.cons (len_ok 4 [.int .i64 c281_.gKind, .str c281_.gName, .int .i64 c281_.gNum, .sl (List.map GTerm.c c281_.gKids)]) (.cons (cimpl_copyTerm_d h277) (.cons (cl_cons (c := GTerm.c) (x := c282_) (GTerm.c_eq c282_) (cl_cons (c := GTerm.c) (x := c279_) (GTerm.c_eq c279_) (cl_nil GTerm.c))) (.cons (cimpl_structure_d h278) .nil))))) ?_
        refine Wc.region [] [] [0, 3, 4, 5] [3, 4] [] ⟨[(0, (.v (.sl (List.map GTerm.c a276_)), [])), (3, (.ptr 3 0, [])), (4, (.ptr 4 0, [])), (5, (.v (.int .i64 (wr.i64 (b278_ - 1))), []))], [(3, .cells [.int .i64 c283_.gKind, .str c283_.gName, .int .i64 c283_.gNum, .slx] [(3, .ex 37 true (List.map GTerm.c c283_.gKids))]), (4, .cells [.int .i64 0, .str (bs []), .int .i64 0, .slx] [(3, .ex 37 true (List.map GTerm.c []))])], []⟩ _ (by kernel_rfl) .nil ?_
        exact ⟨_, Nat.lt_succ_self _, _, _, rfl, h274⟩
      · refine Wc.condF h275 (by kernel_rfl) ?_
        refine Wc.fix (st' := ⟨[(3, (.ptr 3 0, [])), (4, (.ptr 4 0, []))], [(3, .cells [.int .i64 c279_.gKind, .str c279_.gName, .int .i64 c279_.gNum, .slx] [(3, .ex 37 true (List.map GTerm.c c279_.gKids))]), (4, .cells [.int .i64 0, .str (bs []), .int .i64 0, .slx] [(3, .ex 37 true (List.map GTerm.c []))])], []⟩) [] [3, 4] [3, 4] [] (by kernel_rfl) ?_
        refine Wc.exit ?_
        obtain rfl := Option.some.inj h274
        exact ⟨_, rfl, rfl⟩
  · rintro st ⟨c280_, rfl, rfl⟩
    refine Wc.seq ?_
    refine Wc.region [{ md := 1 }, { tk := [21] }] [] [4] [4] [] ⟨[(4, (.ptr 4 0, []))], [(4, .cells [.int .i64 c280_.gKind, .str c280_.gName, .int .i64 c280_.gNum, .slx] [(3, .ex 37 true (List.map GTerm.c c280_.gKids))])], []⟩ _ (by kernel_rfl) .nil ?_
    refine Wc.ret ?_
    obtain rfl := Option.some.inj h
    exact ⟨.inl rfl, by kernel_rfl, by kernel_rfl⟩

def plaws_toTermS_d_L1 (k : Nat) (rlaws_toTerm_d : GTerm → Option GTerm) (rlaws_toTermS_d : (List GTerm) → Option (List GTerm)) (a281_ : List GTerm) : Nat → (List GTerm) → Int → Option (Out (List GTerm) (List GTerm))
  | 0, _, _ => none
  | m + 1, a282_, b283_ =>
    if (decide (b283_ < (a281_.length : Int))) = true then
      (at' a281_ b283_).bind fun c285_ =>
      (rlaws_toTerm_d c285_).bind fun c286_ =>
      (at' a282_ b283_).bind fun c287_ =>
      plaws_toTermS_d_L1 k rlaws_toTerm_d rlaws_toTermS_d a281_ m (a282_.set ((b283_).toNat) c286_) (wr.i64 (b283_ + 1))
    else
      some (.done a282_)
mutual
/-- laws.toTerm -/
def plaws_toTerm_d : Nat → GTerm → Option GTerm
  | 0, _ => none
  | k + 1, c279_ =>
    (plaws_toTermS_d k c279_.gKids).bind fun f280_ =>
    some (GTerm.mk c279_.gKind c279_.gName c279_.gNum f280_)
/-- laws.toTermS -/
def plaws_toTermS_d : Nat → (List GTerm) → Option (List GTerm)
  | 0, _ => none
  | k + 1, a281_ =>
    if 0 ≤ (a281_.length : Int) ∧ (a281_.length : Int) ≤ 1073741824 then
      (plaws_toTermS_d_L1 k (plaws_toTerm_d k) (plaws_toTermS_d k) a281_ k (List.replicate ((a281_.length : Int)).toNat (GTerm.mk 0 (bs []) 0 [])) 0).bind fun out1 => match out1 with
      | .ret r => some r
      | .done a284_ =>
        some a284_
    else none
end
theorem all_plaws_toTerm_d : ∀ k : Nat, (∀ {c279_ : GTerm} {r : GTerm}, plaws_toTerm_d k c279_ = some r → FnO Try.prog 18 [.v (.agg [.int .i64 c279_.gKind, .str c279_.gName, .int .i64 c279_.gNum, .sl (List.map GTerm.c c279_.gKids)]) []] (.v (.agg [.int .i64 r.gKind, .str r.gName, .int .i64 r.gNum, .slx]) [(3, .ex 37 true (List.map GTerm.c r.gKids))]) []) ∧
    (∀ {a281_ : List GTerm} {r : (List GTerm)}, plaws_toTermS_d k a281_ = some r → FnO Try.prog 55 [.v (.sl (List.map GTerm.c a281_)) []] (.v (.slx) [(0, .ex 37 true (List.map GTerm.c r))]) []) := by
  intro k
  induction k with
  | zero =>
    refine ⟨?_, ?_⟩
    · intro c279_ r h
      exact (onone (by rw [plaws_toTerm_d] at h; exact h)).elim
    · intro a281_ r h
      exact (onone (by rw [plaws_toTermS_d] at h; exact h)).elim
  | succ k ih =>
    obtain ⟨ih_plaws_toTerm_d, ih_plaws_toTermS_d⟩ := ih
    refine ⟨?_, ?_⟩
    · intro c279_ r h
      rw [plaws_toTerm_d] at h
      refine FnO.of Try.func18 (rfl : Try.f18.body = some _) (Nat.le_of_ble_eq_true (by kernel_rfl)) (Nat.le_of_ble_eq_true (by kernel_rfl)) ?_
      intro w0 X0 Fin pv0 pb
      refine Wc.seq ?_
      refine Wc.region [] [] [1, 2] [1, 2] [] ⟨[(1, (.ptr 1 0, [])), (2, (.ptr 2 0, []))], [(1, .cells [.int .i64 c279_.gKind, .str c279_.gName, .int .i64 c279_.gNum, .sl (List.map GTerm.c c279_.gKids)] []), (2, .cells [.int .i64 0, .str (bs []), .int .i64 0, .sl (List.map GTerm.c [])] [(3, .app 37)])], []⟩ _ (by kernel_rfl) .nil ?_
      refine Wc.seq ?_
      refine Wc.region [] [] [1, 2, 3] [1, 2, 3] [] ⟨[(1, (.ptr 1 0, [])), (2, (.ptr 2 0, [])), (3, (.ptr 3 0, []))], [(1, .cells [.int .i64 c279_.gKind, .str c279_.gName, .int .i64 c279_.gNum, .sl (List.map GTerm.c c279_.gKids)] []), (2, .cells [.int .i64 0, .str (bs []), .int .i64 0, .sl (List.map GTerm.c [])] [(3, .app 37)]), (3, .cells [.int .i64 0, .str (bs []), .int .i64 0, .sl (List.map GTerm.c [])] [(3, .app 37)])], []⟩ _ (by kernel_rfl) .nil ?_
      refine Wc.seq ?_
      refine Wc.region [] [] [1, 2, 3] [1, 2, 3] [] ⟨[(1, (.ptr 1 0, [])), (2, (.ptr 2 0, [])), (3, (.ptr 3 0, []))], [(1, .cells [.int .i64 c279_.gKind, .str c279_.gName, .int .i64 c279_.gNum, .sl (List.map GTerm.c c279_.gKids)] []), (2, .cells [.int .i64 0, .str (bs []), .int .i64 0, .sl (List.map GTerm.c [])] [(3, .app 37)]), (3, .cells [.int .i64 c279_.gKind, .str (bs []), .int .i64 0, .sl (List.map GTerm.c [])] [(3, .app 37)])], []⟩ _ (by kernel_rfl) .nil ?_
      refine Wc.seq ?_
      refine Wc.region [] [] [1, 2, 3] [1, 2, 3] [] ⟨[(1, (.ptr 1 0, [])), (2, (.ptr 2 0, [])), (3, (.ptr 3 0, []))], [(1, .cells [.int .i64 c279_.gKind, .str c279_.gName, .int .i64 c279_.gNum, .sl (List.map GTerm.c c279_.gKids)] []), (2, .cells [.int .i64 0, .str (bs []), .int .i64 0, .sl (List.map GTerm.c [])] [(3, .app 37)]), (3, .cells [.int .i64 c279_.gKind, .str c279_.gName, .int .i64 0, .sl (List.map GTerm.c [])] [(3, .app 37)])], []⟩ _ (by kernel_rfl) .nil ?_
      refine Wc.seq ?_
      refine Wc.region [] [] [1, 2, 3] [1, 2, 3] [] ⟨[(1, (.ptr 1 0, [])), (2, (.ptr 2 0, [])), (3, (.ptr 3 0, []))], [(1, .cells [.int .i64 c279_.gKind, .str c279_.gName, .int .i64 c279_.gNum, .sl (List.map GTerm.c c279_.gKids)] []), (2, .cells [.int .i64 0, .str (bs []), .int .i64 0, .sl (List.map GTerm.c [])] [(3, .app 37)]), (3, .cells [.int .i64 c279_.gKind, .str c279_.gName, .int .i64 c279_.gNum, .sl (List.map GTerm.c [])] [(3, .app 37)])], []⟩ _ (by kernel_rfl) .nil ?_
      refine Wc.seq ?_
      obtain ⟨f280_, h280, h⟩ := obind h
      refine Wc.region [{}, {}, { r := some (.v (.slx) [(0, .ex 37 true (List.map GTerm.c f280_))]) }, {}, { tk := [15] }] [] [2, 3] [2, 3] [] ⟨[(2, (.ptr 2 0, [])), (3, (.ptr 3 0, []))], [(2, .cells [.int .i64 0, .str (bs []), .int .i64 0, .sl (List.map GTerm.c [])] [(3, .app 37)]), (3, .cells [.int .i64 c279_.gKind, .str c279_.gName, .int .i64 c279_.gNum, .slx] [(3, .ex 37 true (List.map GTerm.c f280_))])], []⟩ _ (by kernel_rfl) (.cons (ih_plaws_toTermS_d h280) .nil) ?_
      refine Wc.seq ?_
      refine Wc.region [{ md := 1 }, { tk := [17] }] [] [2] [2] [] ⟨[(2, (.ptr 2 0, []))], [(2, .cells [.int .i64 c279_.gKind, .str c279_.gName, .int .i64 c279_.gNum, .slx] [(3, .ex 37 true (List.map GTerm.c f280_))])], []⟩ _ (by kernel_rfl) .nil ?_
      refine Wc.ret ?_
      obtain rfl := Option.some.inj h
      exact ⟨.inl rfl, by kernel_rfl, by kernel_rfl⟩
    · intro a281_ r h
      rw [plaws_toTermS_d] at h
      refine FnO.of Try.func55 (rfl : Try.f55.body = some _) (Nat.le_of_ble_eq_true (by kernel_rfl)) (Nat.le_of_ble_eq_true (by kernel_rfl)) ?_
      intro w0 X0 Fin pv0 pb
      refine Wc.seq ?_
      refine Wc.region [] [] [0] [] [] ⟨[(0, (.v (.sl (List.map GTerm.c a281_)), []))], [], []⟩ _ (by kernel_rfl) .nil ?_
      refine Wc.seq ?_
      obtain ⟨h281, h⟩ := oguard h
      refine Wc.region [{}, { v := some (.int .i64 (a281_.length : Int)) }, { c := some (List.map GTerm.c (List.replicate ((a281_.length : Int)).toNat (GTerm.mk 0 (bs []) 0 []))) }, { tk := [7] }] [] [0, 3] [] [] ⟨[(0, (.v (.sl (List.map GTerm.c a281_)), [])), (3, (.v (.slx), [(0, .ex 37 true (List.map GTerm.c (List.replicate ((a281_.length : Int)).toNat (GTerm.mk 0 (bs []) 0 []))))]))], [], []⟩ _ (by kernel_rfl) (.cons (len_obl GTerm.c a281_) (.cons (rep_re (c := GTerm.c) (z := (GTerm.mk 0 (bs []) 0 [])) (GTerm.c_eq (GTerm.mk 0 (bs []) 0 [])) ((a281_.length : Int)).toNat) (.cons (ms_obl h281) .nil))) ?_
      refine Wc.seq ?_
      refine Wc.seq ?_
      refine Wc.region [] [] [0, 3, 4] [] [] ⟨[(0, (.v (.sl (List.map GTerm.c a281_)), [])), (3, (.v (.slx), [(0, .ex 37 true (List.map GTerm.c (List.replicate ((a281_.length : Int)).toNat (GTerm.mk 0 (bs []) 0 []))))])), (4, (.v (.int .i64 0), []))], [], []⟩ _ (by kernel_rfl) .nil ?_
      obtain ⟨out1, h282, h⟩ := obind h
      refine Wc.lastJ (fun st => ∃ (a284_ : List GTerm), out1 = .done a284_ ∧ st = ⟨[(3, (.v (.slx), [(0, .ex 37 true (List.map GTerm.c a284_))]))], [], []⟩) ?_ ?_
      · refine Wc.block ?_
        refine Wc.loop (fun m st => ∃ (a282_ : List GTerm) (b283_ : Int), st = ⟨[(0, (.v (.sl (List.map GTerm.c a281_)), [])), (3, (.v (.slx), [(0, .ex 37 true (List.map GTerm.c a282_))])), (4, (.v (.int .i64 b283_), []))], [], []⟩ ∧ plaws_toTermS_d_L1 k (plaws_toTerm_d k) (plaws_toTermS_d k) a281_ m a282_ b283_ = some out1) ?_ k ⟨_, _, rfl, h282⟩
        rintro m st ⟨a282_, b283_, rfl, h282⟩
        cases m with
        | zero => exact (onone h282).elim
        | succ m =>
          refine Wc.seq ?_
          refine Wc.seq ?_
          refine Wc.region [{}, {}, { v := some (.int .i64 (a281_.length : Int)) }] [] [0, 3, 4, 11] [] [] ⟨[(0, (.v (.sl (List.map GTerm.c a281_)), [])), (3, (.v (.slx), [(0, .ex 37 true (List.map GTerm.c a282_))])), (4, (.v (.int .i64 b283_), [])), (11, (.v (.bool (decide (b283_ < (a281_.length : Int)))), []))], [], []⟩ _ (by kernel_rfl) (.cons (len_obl GTerm.c a281_) .nil) ?_
          rcases oif h282 with ⟨h283, h282⟩ | ⟨h283, h282⟩
          · refine Wc.condT h283 (by kernel_rfl) ?_
            refine Wc.fix (st' := ⟨[(0, (.v (.sl (List.map GTerm.c a281_)), [])), (3, (.v (.slx), [(0, .ex 37 true (List.map GTerm.c a282_))])), (4, (.v (.int .i64 b283_), []))], [], []⟩) [] [0, 3, 4] [] [] (by kernel_rfl) ?_
            refine Wc.skip ?_
            refine Wc.seq ?_
            refine Wc.block ?_
            obtain ⟨c285_, h284, h282⟩ := obind h282
            obtain ⟨c286_, h285, h282⟩ := obind h282
            obtain ⟨c287_, h286, h282⟩ := obind h282
            refine Wc.region [{}, {}, {}, {}, { v := some (.vptr [.int .i64 c285_.gKind, .str c285_.gName, .int .i64 c285_.gNum, .sl (List.map GTerm.c c285_.gKids)]) }, {}, { r := some (.v (.agg [.int .i64 c286_.gKind, .str c286_.gName, .int .i64 c286_.gNum, .slx]) [(3, .ex 37 true (List.map GTerm.c c286_.gKids))]) }, {}, { c := some (List.map GTerm.c (a282_.set ((b283_).toNat) c286_)), tk := [20] }] [] [0, 3, 4] [] [] ⟨[(0, (.v (.sl (List.map GTerm.c a281_)), [])), (3, (.v (.slx), [(0, .ex 37 true (List.map GTerm.c (a282_.set ((b283_).toNat) c286_)))])), (4, (.v (.int .i64 b283_), []))], [], []⟩ _ (by kernel_rfl) (.cons (at_obl (c := GTerm.c) (GTerm.c_eq c285_) GTerm.c_len h284) (.cons (len_ok 4 [.int .i64 c285_.gKind, .str c285_.gName, .int .i64 c285_.gNum, .sl (List.map GTerm.c c285_.gKids)]) (.cons (ih_plaws_toTerm_d h285) (.cons (ix_obl (c := GTerm.c) GTerm.c_len h286) (.cons (mod_obl (off := 0) (new := [.int .i64 c286_.gKind, .str c286_.gName, .int .i64 c286_.gNum, .sl (List.map GTerm.c c286_.gKids)]) (c := GTerm.c) (GTerm.c_eq c287_) (GTerm.c_eq c286_) (at'_spec h286).2 rfl) (.cons (st_obl (sz := 4) (off := 0) (s := 4) (c := GTerm.c) (GTerm.c_eq c287_) (at'_spec h286).2 rfl (Nat.le_of_ble_eq_true rfl)) .nil)))))) ?_
            refine Wc.region [] [] [0, 3, 4] [] [] ⟨[(0, (.v (.sl (List.map GTerm.c a281_)), [])), (3, (.v (.slx), [(0, .ex 37 true (List.map GTerm.c (a282_.set ((b283_).toNat) c286_)))])), (4, (.v (.int .i64 (wr.i64 (b283_ + 1))), []))], [], []⟩ _ (by kernel_rfl) .nil ?_
            exact ⟨_, Nat.lt_succ_self _, _, _, rfl, h282⟩
          · refine Wc.condF h283 (by kernel_rfl) ?_
            refine Wc.fix (st' := ⟨[(3, (.v (.slx), [(0, .ex 37 true (List.map GTerm.c a282_))]))], [], []⟩) [] [3] [] [] (by kernel_rfl) ?_
            refine Wc.exit ?_
            obtain rfl := Option.some.inj h282
            exact ⟨_, rfl, rfl⟩
      · rintro st ⟨a284_, rfl, rfl⟩
        refine Wc.seq ?_
        refine Wc.region [{ tk := [3] }, { tk := [22] }] [] [2] [] [] ⟨[(2, (.v (.slx), [(0, .ex 37 true (List.map GTerm.c a284_))]))], [], []⟩ _ (by kernel_rfl) .nil ?_
        refine Wc.ret ?_
        obtain rfl := Option.some.inj h
        exact ⟨.inl rfl, by kernel_rfl, by kernel_rfl⟩
theorem claws_toTerm_d {k : Nat} {c279_ : GTerm} {r : GTerm} (h : plaws_toTerm_d k c279_ = some r) : FnO Try.prog 18 [.v (.agg [.int .i64 c279_.gKind, .str c279_.gName, .int .i64 c279_.gNum, .sl (List.map GTerm.c c279_.gKids)]) []] (.v (.agg [.int .i64 r.gKind, .str r.gName, .int .i64 r.gNum, .slx]) [(3, .ex 37 true (List.map GTerm.c r.gKids))]) [] := (all_plaws_toTerm_d k).1 h
theorem claws_toTermS_d {k : Nat} {a281_ : List GTerm} {r : (List GTerm)} (h : plaws_toTermS_d k a281_ = some r) : FnO Try.prog 55 [.v (.sl (List.map GTerm.c a281_)) []] (.v (.slx) [(0, .ex 37 true (List.map GTerm.c r))]) [] := (all_plaws_toTerm_d k).2 h

/-- impl.JoinedLists -/
def pimpl_JoinedLists_d (k : Nat) (c279_ : GTerm) (c280_ : GTerm) : Option (GTerm × Bool) :=
  (pimpl_ItemsOf k c279_).bind fun g281_ =>
  (pimpl_ItemsOf k c280_).bind fun g282_ =>
  (pimpl_copyTerm_d k c280_).bind fun c283_ =>
  (pimpl_listOf_d k g281_.1 c283_).bind fun c284_ =>
  if (!g281_.2) = true then
    some (GTerm.mk 0 (bs []) 0 [], false)
  else
    if (!g282_.2) = true then
      some (GTerm.mk 0 (bs []) 0 [], false)
    else
      (pimpl_TermOk k c284_).bind fun e285_ =>
      if (!e285_) = true then
        some (GTerm.mk 0 (bs []) 0 [], false)
      else
        some (c284_, true)
theorem cimpl_JoinedLists_d {k : Nat} {c279_ : GTerm} {c280_ : GTerm} {r : GTerm × Bool} (h : pimpl_JoinedLists_d k c279_ c280_ = some r) : FnO Try.prog 19 [.v (.agg [.int .i64 c279_.gKind, .str c279_.gName, .int .i64 c279_.gNum, .sl (List.map GTerm.c c279_.gKids)]) [], .v (.agg [.int .i64 c280_.gKind, .str c280_.gName, .int .i64 c280_.gNum, .sl (List.map GTerm.c c280_.gKids)]) []] (.v (.tup [.agg [.int .i64 r.1.gKind, .str r.1.gName, .int .i64 r.1.gNum, .slx], .bool r.2]) [(3, .ex 37 true (List.map GTerm.c r.1.gKids))]) [] := by
  refine FnO.of Try.func19 (rfl : Try.f19.body = some _) (Nat.le_of_ble_eq_true (by kernel_rfl)) (Nat.le_of_ble_eq_true (by kernel_rfl)) ?_
  intro w0 X0 Fin pv0 pb
  unfold pimpl_JoinedLists_d at h
  refine Wc.seq ?_
  refine Wc.region [] [] [2, 3, 4] [2, 3, 4] [] ⟨[(2, (.ptr 2 0, [])), (3, (.ptr 3 0, [])), (4, (.ptr 4 0, []))], [(2, .cells [.int .i64 c279_.gKind, .str c279_.gName, .int .i64 c279_.gNum, .sl (List.map GTerm.c c279_.gKids)] []), (3, .cells [.int .i64 c280_.gKind, .str c280_.gName, .int .i64 c280_.gNum, .sl (List.map GTerm.c c280_.gKids)] []), (4, .cells [.int .i64 0, .str (bs []), .int .i64 0, .sl (List.map GTerm.c [])] [(3, .app 37)])], []⟩ _ (by kernel_rfl) .nil ?_
  refine Wc.seq ?_
  obtain ⟨g281_, h283, h⟩ := obind h
  refine Wc.region [{}, { r := some (.v (.tup [.sl (List.map GTerm.c g281_.1), .bool g281_.2]) [(0, .app 37)]) }, { tk := [13] }, { tk := [11] }, {}, { tk := [14] }] [] [3, 4, 6, 7] [3, 4] [] ⟨[(3, (.ptr 3 0, [])), (4, (.ptr 4 0, [])), (6, (.v (.sl (List.map GTerm.c g281_.1)), [(0, .app 37)])), (7, (.v (.bool g281_.2), []))], [(3, .cells [.int .i64 c280_.gKind, .str c280_.gName, .int .i64 c280_.gNum, .sl (List.map GTerm.c c280_.gKids)] []), (4, .cells [.int .i64 0, .str (bs []), .int .i64 0, .sl (List.map GTerm.c [])] [(3, .app 37)])], []⟩ _ (by kernel_rfl) (.cons (cimpl_ItemsOf h283) .nil) ?_
  refine Wc.seq ?_
  obtain ⟨g282_, h284, h⟩ := obind h
  refine Wc.region [{}, { r := some (.v (.tup [.sl (List.map GTerm.c g282_.1), .bool g282_.2]) [(0, .app 37)]) }, { tk := [18] }, { tk := [16] }, {}, { tk := [19] }] [] [3, 4, 6, 7, 9] [3, 4] [] ⟨[(3, (.ptr 3 0, [])), (4, (.ptr 4 0, [])), (6, (.v (.sl (List.map GTerm.c g281_.1)), [(0, .app 37)])), (7, (.v (.bool g281_.2), [])), (9, (.v (.bool g282_.2), []))], [(3, .cells [.int .i64 c280_.gKind, .str c280_.gName, .int .i64 c280_.gNum, .sl (List.map GTerm.c c280_.gKids)] []), (4, .cells [.int .i64 0, .str (bs []), .int .i64 0, .sl (List.map GTerm.c [])] [(3, .app 37)])], []⟩ _ (by kernel_rfl) (.cons (cimpl_ItemsOf h284) .nil) ?_
  refine Wc.seq ?_
  obtain ⟨c283_, h285, h⟩ := obind h
  obtain ⟨c284_, h286, h⟩ := obind h
  refine Wc.region [{ tk := [6] }, {}, { r := some (.v (.agg [.int .i64 c283_.gKind, .str c283_.gName, .int .i64 c283_.gNum, .slx]) [(3, .ex 37 true (List.map GTerm.c c283_.gKids))]) }, { tk := [23], r := some (.v (.agg [.int .i64 c284_.gKind, .str c284_.gName, .int .i64 c284_.gNum, .slx]) [(3, .ex 37 true (List.map GTerm.c c284_.gKids))]) }, {}, { tk := [24] }] [] [4, 7, 9, 10] [4, 10] [] ⟨[(4, (.ptr 4 0, [])), (7, (.v (.bool g281_.2), [])), (9, (.v (.bool g282_.2), [])), (10, (.ptr 10 0, []))], [(4, .cells [.int .i64 0, .str (bs []), .int .i64 0, .sl (List.map GTerm.c [])] [(3, .app 37)]), (10, .cells [.int .i64 c284_.gKind, .str c284_.gName, .int .i64 c284_.gNum, .slx] [(3, .ex 37 true (List.map GTerm.c c284_.gKids))])], []⟩ _ (by kernel_rfl) (.cons (cimpl_copyTerm_d h285) (.cons (cimpl_listOf_d h286) .nil)) ?_
  refine Wc.seq ?_
  refine Wc.seq ?_
  rcases oif h with ⟨h287, h⟩ | ⟨h287, h⟩
  · refine Wc.region [{}, {}, { re := some (.bool true) }] [] [4, 10, 35] [4, 10] [] ⟨[(4, (.ptr 4 0, [])), (10, (.ptr 10 0, [])), (35, (.v (.bool true), []))], [(4, .cells [.int .i64 0, .str (bs []), .int .i64 0, .sl (List.map GTerm.c [])] [(3, .app 37)]), (10, .cells [.int .i64 c284_.gKind, .str c284_.gName, .int .i64 c284_.gNum, .slx] [(3, .ex 37 true (List.map GTerm.c c284_.gKids))])], []⟩ _ (by kernel_rfl) (.cons (congrArg AV.bool h287) .nil) ?_
    refine Wc.condT rfl (by kernel_rfl) ?_
    refine Wc.seq ?_
    refine Wc.region [{}, { tk := [36] }] [] [4, 5] [4] [] ⟨[(4, (.ptr 4 0, [])), (5, (.v (.bool false), []))], [(4, .cells [.int .i64 0, .str (bs []), .int .i64 0, .sl (List.map GTerm.c [])] [(3, .app 37)])], []⟩ _ (by kernel_rfl) .nil ?_
    refine Wc.fix (st' := ⟨[(4, (.ptr 4 0, [])), (5, (.v (.bool false), []))], [(4, .cells [.int .i64 0, .str (bs []), .int .i64 0, .slx] [(3, .ex 37 true (List.map GTerm.c []))])], []⟩) [.ow (.b 4 3) true] [4, 5] [4] [] (by kernel_rfl) ?_
    refine Wc.ret ?_
    obtain rfl := Option.some.inj h
    exact ⟨.inl rfl, by kernel_rfl, by kernel_rfl⟩
  · rcases oif h with ⟨h288, h⟩ | ⟨h288, h⟩
    · refine Wc.region [{}, {}, { re := some (.bool false) }, {}, {}, {}, { re := some (.bool true) }] [] [4, 10, 35] [4, 10] [] ⟨[(4, (.ptr 4 0, [])), (10, (.ptr 10 0, [])), (35, (.v (.bool true), []))], [(4, .cells [.int .i64 0, .str (bs []), .int .i64 0, .sl (List.map GTerm.c [])] [(3, .app 37)]), (10, .cells [.int .i64 c284_.gKind, .str c284_.gName, .int .i64 c284_.gNum, .slx] [(3, .ex 37 true (List.map GTerm.c c284_.gKids))])], []⟩ _ (by kernel_rfl) (.cons (congrArg AV.bool h287) (.cons (congrArg AV.bool h288) .nil)) ?_
      refine Wc.condT rfl (by kernel_rfl) ?_
      refine Wc.seq ?_
      refine Wc.region [{}, { tk := [36] }] [] [4, 5] [4] [] ⟨[(4, (.ptr 4 0, [])), (5, (.v (.bool false), []))], [(4, .cells [.int .i64 0, .str (bs []), .int .i64 0, .sl (List.map GTerm.c [])] [(3, .app 37)])], []⟩ _ (by kernel_rfl) .nil ?_
      refine Wc.fix (st' := ⟨[(4, (.ptr 4 0, [])), (5, (.v (.bool false), []))], [(4, .cells [.int .i64 0, .str (bs []), .int .i64 0, .slx] [(3, .ex 37 true (List.map GTerm.c []))])], []⟩) [.ow (.b 4 3) true] [4, 5] [4] [] (by kernel_rfl) ?_
      refine Wc.ret ?_
      obtain rfl := Option.some.inj h
      exact ⟨.inl rfl, by kernel_rfl, by kernel_rfl⟩
    · obtain ⟨e285_, h289, h⟩ := obind h
      refine Wc.region [{}, {}, { re := some (.bool false) }, {}, {}, {}, { re := some (.bool false) }, {}, { r := some (.v (.bool e285_) []) }] [] [4, 10, 35] [4, 10] [] ⟨[(4, (.ptr 4 0, [])), (10, (.ptr 10 0, [])), (35, (.v (.bool (!e285_)), []))], [(4, .cells [.int .i64 0, .str (bs []), .int .i64 0, .sl (List.map GTerm.c [])] [(3, .app 37)]), (10, .cells [.int .i64 c284_.gKind, .str c284_.gName, .int .i64 c284_.gNum, .slx] [(3, .ex 37 true (List.map GTerm.c c284_.gKids))])], []⟩ _ (by kernel_rfl) (.cons (congrArg AV.bool h287) (.cons (congrArg AV.bool h288) (.cons (cimpl_TermOk h289) .nil))) ?_
      rcases oif h with ⟨h290, h⟩ | ⟨h290, h⟩
      · refine Wc.condT h290 (by kernel_rfl) ?_
        refine Wc.seq ?_
        refine Wc.region [{}, { tk := [36] }] [] [4, 5] [4] [] ⟨[(4, (.ptr 4 0, [])), (5, (.v (.bool false), []))], [(4, .cells [.int .i64 0, .str (bs []), .int .i64 0, .sl (List.map GTerm.c [])] [(3, .app 37)])], []⟩ _ (by kernel_rfl) .nil ?_
        refine Wc.fix (st' := ⟨[(4, (.ptr 4 0, [])), (5, (.v (.bool false), []))], [(4, .cells [.int .i64 0, .str (bs []), .int .i64 0, .slx] [(3, .ex 37 true (List.map GTerm.c []))])], []⟩) [.ow (.b 4 3) true] [4, 5] [4] [] (by kernel_rfl) ?_
        refine Wc.ret ?_
        obtain rfl := Option.some.inj h
        exact ⟨.inl rfl, by kernel_rfl, by kernel_rfl⟩
      · refine Wc.condF h290 (by kernel_rfl) ?_
        refine Wc.fix (st' := ⟨[(4, (.ptr 4 0, [])), (10, (.ptr 10 0, []))], [(4, .cells [.int .i64 0, .str (bs []), .int .i64 0, .sl (List.map GTerm.c [])] [(3, .app 37)]), (10, .cells [.int .i64 c284_.gKind, .str c284_.gName, .int .i64 c284_.gNum, .slx] [(3, .ex 37 true (List.map GTerm.c c284_.gKids))])], []⟩) [] [4, 10] [4, 10] [] (by kernel_rfl) ?_
        refine Wc.skip ?_
        refine Wc.seq ?_
        refine Wc.region [{ md := 1 }, { tk := [37] }] [] [4, 5] [4] [] ⟨[(4, (.ptr 4 0, [])), (5, (.v (.bool true), []))], [(4, .cells [.int .i64 c284_.gKind, .str c284_.gName, .int .i64 c284_.gNum, .slx] [(3, .ex 37 true (List.map GTerm.c c284_.gKids))])], []⟩ _ (by kernel_rfl) .nil ?_
        refine Wc.ret ?_
        obtain rfl := Option.some.inj h
        exact ⟨.inl rfl, by kernel_rfl, by kernel_rfl⟩

/-- laws.FnExactJoinedLists -/
def plaws_FnExactJoinedLists (k : Nat) (c263_ : GTerm) (c264_ : GTerm) : Option Bool :=
  (plaws_szTerm k c263_ 1048576).bind fun b265_ =>
  if (decide (b265_ < 0)) = true then
    some true
  else
    (plaws_szTerm k c264_ b265_).bind fun b266_ =>
    if (decide (b266_ < 0)) = true then
      some true
    else
      (plaws_toTerm k c263_).bind fun c267_ =>
      (plaws_toTerm k c264_).bind fun c268_ =>
      (pspec_JoinedLists k c267_ c268_).bind fun i269_ =>
      (plaws_toTerm_d k c263_).bind fun c270_ =>
      (plaws_toTerm_d k c264_).bind fun c271_ =>
      (pimpl_JoinedLists_d k c270_ c271_).bind fun i272_ =>
      (plaws_eqTerm k (GTerm.mk i272_.1.gKind i272_.1.gName i272_.1.gNum i272_.1.gKids) (GTerm.mk i269_.1.gKind i269_.1.gName i269_.1.gNum i269_.1.gKids)).bind fun e273_ =>
      if (!e273_) = true then
        some false
      else
        if (!(i272_.2 == i269_.2)) = true then
          some false
        else
          (plaws_toTerm k c263_).bind fun c274_ =>
          (plaws_eqTerm k c270_ c274_).bind fun e275_ =>
          if (!e275_) = true then
            some false
          else
            (plaws_toTerm k c264_).bind fun c276_ =>
            (plaws_eqTerm k c271_ c276_).bind fun e277_ =>
            if (!e277_) = true then
              some false
            else
              (plaws_markTerm k c270_ 1).bind fun l278_ =>
              (plaws_markTerm k c271_ l278_.2).bind fun l279_ =>
              if (decide (l279_.2 < 0)) = true then
                some false
              else
                (plaws_eqTerm k (GTerm.mk i272_.1.gKind i272_.1.gName i272_.1.gNum i272_.1.gKids) (GTerm.mk i269_.1.gKind i269_.1.gName i269_.1.gNum i269_.1.gKids)).bind fun e280_ =>
                if (!e280_) = true then
                  some false
                else
                  if (!(i272_.2 == i269_.2)) = true then
                    some false
                  else
                    (plaws_markTerm k (GTerm.mk i272_.1.gKind i272_.1.gName i272_.1.gNum i272_.1.gKids) 1).bind fun l281_ =>
                    (plaws_heldTerm k (GTerm.mk i272_.1.gKind i272_.1.gName i272_.1.gNum l281_.1.gKids) 1).bind fun b282_ =>
                    if (decide (b282_ < 0)) = true then
                      some false
                    else
                      if (b282_ != l281_.2) = true then
                        some false
                      else
                        (plaws_toTerm k c263_).bind fun c283_ =>
                        (plaws_toTerm k c264_).bind fun c284_ =>
                        (pimpl_JoinedLists k c283_ c284_).bind fun i285_ =>
                        (plaws_eqTerm k (GTerm.mk i285_.1.gKind i285_.1.gName i285_.1.gNum i285_.1.gKids) (GTerm.mk i269_.1.gKind i269_.1.gName i269_.1.gNum i269_.1.gKids)).bind fun e286_ =>
                        if (!e286_) = true then
                          some false
                        else
                          if (!(i285_.2 == i269_.2)) = true then
                            some false
                          else
                            (plaws_heldTerm k (GTerm.mk i272_.1.gKind i272_.1.gName i272_.1.gNum l281_.1.gKids) 1).bind fun b287_ =>
                            if (decide (b287_ < 0)) = true then
                              some false
                            else
                              if (b287_ != l281_.2) = true then
                                some false
                              else
                                some true
theorem claws_FnExactJoinedLists {k : Nat} {c263_ : GTerm} {c264_ : GTerm} {r : Bool} (h : plaws_FnExactJoinedLists k c263_ c264_ = some r) : FnO Try.prog 4 [.v (.agg [.int .i64 c263_.gKind, .str c263_.gName, .int .i64 c263_.gNum, .sl (List.map GTerm.c c263_.gKids)]) [], .v (.agg [.int .i64 c264_.gKind, .str c264_.gName, .int .i64 c264_.gNum, .sl (List.map GTerm.c c264_.gKids)]) []] (.v (.bool r) []) [] := by
  refine FnO.of Try.func4 (rfl : Try.f4.body = some _) (Nat.le_of_ble_eq_true (by kernel_rfl)) (Nat.le_of_ble_eq_true (by kernel_rfl)) ?_
  intro w0 X0 Fin pv0 pb
  unfold plaws_FnExactJoinedLists at h
  refine Wc.seq ?_
  refine Wc.region [] [] [2, 3] [2, 3] [] ⟨[(2, (.ptr 2 0, [])), (3, (.ptr 3 0, []))], [(2, .cells [.int .i64 c263_.gKind, .str c263_.gName, .int .i64 c263_.gNum, .sl (List.map GTerm.c c263_.gKids)] []), (3, .cells [.int .i64 c264_.gKind, .str c264_.gName, .int .i64 c264_.gNum, .sl (List.map GTerm.c c264_.gKids)] [])], []⟩ _ (by kernel_rfl) .nil ?_
  refine Wc.seq ?_
  refine Wc.region [] [] [2, 3, 5] [2, 3] [] ⟨[(2, (.ptr 2 0, [])), (3, (.ptr 3 0, [])), (5, (.v (.int .i64 1048576), []))], [(2, .cells [.int .i64 c263_.gKind, .str c263_.gName, .int .i64 c263_.gNum, .sl (List.map GTerm.c c263_.gKids)] []), (3, .cells [.int .i64 c264_.gKind, .str c264_.gName, .int .i64 c264_.gNum, .sl (List.map GTerm.c c264_.gKids)] [])], []⟩ _ (by kernel_rfl) .nil ?_
  refine Wc.seq ?_
  obtain ⟨b265_, h266, h⟩ := obind h
  refine Wc.region [{}, {}, { r := some (.v (.int .i64 b265_) []) }] [] [2, 3, 5] [2, 3] [] ⟨[(2, (.ptr 2 0, [])), (3, (.ptr 3 0, [])), (5, (.v (.int .i64 b265_), []))], [(2, .cells [.int .i64 c263_.gKind, .str c263_.gName, .int .i64 c263_.gNum, .sl (List.map GTerm.c c263_.gKids)] []), (3, .cells [.int .i64 c264_.gKind, .str c264_.gName, .int .i64 c264_.gNum, .sl (List.map GTerm.c c264_.gKids)] [])], []⟩ _ (by kernel_rfl) (.cons (claws_szTerm h266) .nil) ?_
  refine Wc.seq ?_
  refine Wc.seq ?_
  refine Wc.region [] [] [2, 3, 5, 21] [2, 3] [] ⟨[(2, (.ptr 2 0, [])), (3, (.ptr 3 0, [])), (5, (.v (.int .i64 b265_), [])), (21, (.v (.bool (decide (b265_ < 0))), []))], [(2, .cells [.int .i64 c263_.gKind, .str c263_.gName, .int .i64 c263_.gNum, .sl (List.map GTerm.c c263_.gKids)] []), (3, .cells [.int .i64 c264_.gKind, .str c264_.gName, .int .i64 c264_.gNum, .sl (List.map GTerm.c c264_.gKids)] [])], []⟩ _ (by kernel_rfl) .nil ?_
  rcases oif h with ⟨h267, h⟩ | ⟨h267, h⟩
  · refine Wc.condT h267 (by kernel_rfl) ?_
    refine Wc.seq ?_
    refine Wc.region [] [] [4] [] [] ⟨[(4, (.v (.bool true), []))], [], []⟩ _ (by kernel_rfl) .nil ?_
    refine Wc.ret ?_
    obtain rfl := Option.some.inj h
    exact ⟨.inl rfl, by kernel_rfl, by kernel_rfl⟩
  · refine Wc.condF h267 (by kernel_rfl) ?_
    refine Wc.fix (st' := ⟨[(2, (.ptr 2 0, [])), (3, (.ptr 3 0, [])), (5, (.v (.int .i64 b265_), []))], [(2, .cells [.int .i64 c263_.gKind, .str c263_.gName, .int .i64 c263_.gNum, .sl (List.map GTerm.c c263_.gKids)] []), (3, .cells [.int .i64 c264_.gKind, .str c264_.gName, .int .i64 c264_.gNum, .sl (List.map GTerm.c c264_.gKids)] [])], []⟩) [] [2, 3, 5] [2, 3] [] (by kernel_rfl) ?_
    refine Wc.skip ?_
    refine Wc.seq ?_
    obtain ⟨b266_, h268, h⟩ := obind h
    refine Wc.region [{}, {}, { r := some (.v (.int .i64 b266_) []) }] [] [2, 3, 5] [2, 3] [] ⟨[(2, (.ptr 2 0, [])), (3, (.ptr 3 0, [])), (5, (.v (.int .i64 b266_), []))], [(2, .cells [.int .i64 c263_.gKind, .str c263_.gName, .int .i64 c263_.gNum, .sl (List.map GTerm.c c263_.gKids)] []), (3, .cells [.int .i64 c264_.gKind, .str c264_.gName, .int .i64 c264_.gNum, .sl (List.map GTerm.c c264_.gKids)] [])], []⟩ _ (by kernel_rfl) (.cons (claws_szTerm h268) .nil) ?_
    refine Wc.seq ?_
    refine Wc.seq ?_
    refine Wc.region [] [] [2, 3, 26] [2, 3] [] ⟨[(2, (.ptr 2 0, [])), (3, (.ptr 3 0, [])), (26, (.v (.bool (decide (b266_ < 0))), []))], [(2, .cells [.int .i64 c263_.gKind, .str c263_.gName, .int .i64 c263_.gNum, .sl (List.map GTerm.c c263_.gKids)] []), (3, .cells [.int .i64 c264_.gKind, .str c264_.gName, .int .i64 c264_.gNum, .sl (List.map GTerm.c c264_.gKids)] [])], []⟩ _ (by kernel_rfl) .nil ?_
    rcases oif h with ⟨h269, h⟩ | ⟨h269, h⟩
    · refine Wc.condT h269 (by kernel_rfl) ?_
      refine Wc.seq ?_
      refine Wc.region [] [] [4] [] [] ⟨[(4, (.v (.bool true), []))], [], []⟩ _ (by kernel_rfl) .nil ?_
      refine Wc.ret ?_
      obtain rfl := Option.some.inj h
      exact ⟨.inl rfl, by kernel_rfl, by kernel_rfl⟩
    · refine Wc.condF h269 (by kernel_rfl) ?_
      refine Wc.fix (st' := ⟨[(2, (.ptr 2 0, [])), (3, (.ptr 3 0, []))], [(2, .cells [.int .i64 c263_.gKind, .str c263_.gName, .int .i64 c263_.gNum, .sl (List.map GTerm.c c263_.gKids)] []), (3, .cells [.int .i64 c264_.gKind, .str c264_.gName, .int .i64 c264_.gNum, .sl (List.map GTerm.c c264_.gKids)] [])], []⟩) [] [2, 3] [2, 3] [] (by kernel_rfl) ?_
      refine Wc.skip ?_
      refine Wc.seq ?_
      obtain ⟨c267_, h270, h⟩ := obind h
      obtain ⟨c268_, h271, h⟩ := obind h
      obtain ⟨i269_, h272, h⟩ := obind h
      refine Wc.draw hmix [{}, { r := some (.v (.agg [.int .i64 c267_.gKind, .str c267_.gName, .int .i64 c267_.gNum, .sl (List.map GTerm.c c267_.gKids)]) []) }, {}, { r := some (.v (.agg [.int .i64 c268_.gKind, .str c268_.gName, .int .i64 c268_.gNum, .sl (List.map GTerm.c c268_.gKids)]) []) }, { r := some (.v (.tup [.agg [.int .i64 i269_.1.gKind, .str i269_.1.gName, .int .i64 i269_.1.gNum, .sl (List.map GTerm.c i269_.1.gKids)], .bool i269_.2]) []) }] [] [2, 3, 6, 7] [2, 3, 6] [] ⟨[(2, (.ptr 2 0, [])), (3, (.ptr 3 0, [])), (6, (.ptr 6 0, [])), (7, (.v (.bool i269_.2), []))], [(2, .cells [.int .i64 c263_.gKind, .str c263_.gName, .int .i64 c263_.gNum, .sl (List.map GTerm.c c263_.gKids)] []), (3, .cells [.int .i64 c264_.gKind, .str c264_.gName, .int .i64 c264_.gNum, .sl (List.map GTerm.c c264_.gKids)] []), (6, .cells [.int .i64 i269_.1.gKind, .str i269_.1.gName, .int .i64 i269_.1.gNum, .sl (List.map GTerm.c i269_.1.gKids)] [])], []⟩ _ (by kernel_rfl) (fun X => by kernel_rfl) (.cons (claws_toTerm h270) (.cons (claws_toTerm h271) (.cons (FnO.un (cspec_JoinedLists h272)) .nil))) ?_
      refine Wc.seq ?_
      obtain ⟨c270_, h273, h⟩ := obind h
      refine Wc.region [{}, { r := some (.v (.agg [.int .i64 c270_.gKind, .str c270_.gName, .int .i64 c270_.gNum, .slx]) [(3, .ex 37 true (List.map GTerm.c c270_.gKids))]) }, {}, { tk := [36] }] [] [2, 3, 6, 7, 8] [2, 3, 6, 8] [] ⟨[(2, (.ptr 2 0, [])), (3, (.ptr 3 0, [])), (6, (.ptr 6 0, [])), (7, (.v (.bool i269_.2), [])), (8, (.ptr 8 0, []))], [(2, .cells [.int .i64 c263_.gKind, .str c263_.gName, .int .i64 c263_.gNum, .sl (List.map GTerm.c c263_.gKids)] []), (3, .cells [.int .i64 c264_.gKind, .str c264_.gName, .int .i64 c264_.gNum, .sl (List.map GTerm.c c264_.gKids)] []), (6, .cells [.int .i64 i269_.1.gKind, .str i269_.1.gName, .int .i64 i269_.1.gNum, .sl (List.map GTerm.c i269_.1.gKids)] []), (8, .cells [.int .i64 c270_.gKind, .str c270_.gName, .int .i64 c270_.gNum, .slx] [(3, .ex 37 true (List.map GTerm.c c270_.gKids))])], []⟩ _ (by kernel_rfl) (.cons (claws_toTerm_d h273) .nil) ?_
      refine Wc.seq ?_
      obtain ⟨c271_, h274, h⟩ := obind h
      refine Wc.region [{}, { r := some (.v (.agg [.int .i64 c271_.gKind, .str c271_.gName, .int .i64 c271_.gNum, .slx]) [(3, .ex 37 true (List.map GTerm.c c271_.gKids))]) }, {}, { tk := [38] }] [] [2, 3, 6, 7, 8, 9] [2, 3, 6, 8, 9] [] ⟨[(2, (.ptr 2 0, [])), (3, (.ptr 3 0, [])), (6, (.ptr 6 0, [])), (7, (.v (.bool i269_.2), [])), (8, (.ptr 8 0, [])), (9, (.ptr 9 0, []))], [(2, .cells [.int .i64 c263_.gKind, .str c263_.gName, .int .i64 c263_.gNum, .sl (List.map GTerm.c c263_.gKids)] []), (3, .cells [.int .i64 c264_.gKind, .str c264_.gName, .int .i64 c264_.gNum, .sl (List.map GTerm.c c264_.gKids)] []), (6, .cells [.int .i64 i269_.1.gKind, .str i269_.1.gName, .int .i64 i269_.1.gNum, .sl (List.map GTerm.c i269_.1.gKids)] []), (8, .cells [.int .i64 c270_.gKind, .str c270_.gName, .int .i64 c270_.gNum, .slx] [(3, .ex 37 true (List.map GTerm.c c270_.gKids))]), (9, .cells [.int .i64 c271_.gKind, .str c271_.gName, .int .i64 c271_.gNum, .slx] [(3, .ex 37 true (List.map GTerm.c c271_.gKids))])], []⟩ _ (by kernel_rfl) (.cons (claws_toTerm_d h274) .nil) ?_
      refine Wc.seq ?_
      obtain ⟨i272_, h275, h⟩ := obind h
      refine Wc.region [{}, {}, { r := some (.v (.tup [.agg [.int .i64 i272_.1.gKind, .str i272_.1.gName, .int .i64 i272_.1.gNum, .slx], .bool i272_.2]) [(3, .ex 37 true (List.map GTerm.c i272_.1.gKids))]) }, { tk := [42] }, { tk := [39] }, {}, {}, { tk := [43] }] [] [2, 3, 6, 7, 8, 9, 10, 11] [2, 3, 6, 8, 9, 10] [] ⟨[(2, (.ptr 2 0, [])), (3, (.ptr 3 0, [])), (6, (.ptr 6 0, [])), (7, (.v (.bool i269_.2), [])), (8, (.ptr 8 0, [])), (9, (.ptr 9 0, [])), (10, (.ptr 10 0, [])), (11, (.v (.bool i272_.2), []))], [(2, .cells [.int .i64 c263_.gKind, .str c263_.gName, .int .i64 c263_.gNum, .sl (List.map GTerm.c c263_.gKids)] []), (3, .cells [.int .i64 c264_.gKind, .str c264_.gName, .int .i64 c264_.gNum, .sl (List.map GTerm.c c264_.gKids)] []), (6, .cells [.int .i64 i269_.1.gKind, .str i269_.1.gName, .int .i64 i269_.1.gNum, .sl (List.map GTerm.c i269_.1.gKids)] []), (8, .cells [.int .i64 c270_.gKind, .str c270_.gName, .int .i64 c270_.gNum, .slx] [(3, .ex 37 true (List.map GTerm.c c270_.gKids))]), (9, .cells [.int .i64 c271_.gKind, .str c271_.gName, .int .i64 c271_.gNum, .slx] [(3, .ex 37 true (List.map GTerm.c c271_.gKids))]), (10, .cells [.int .i64 i272_.1.gKind, .str i272_.1.gName, .int .i64 i272_.1.gNum, .slx] [(3, .ex 37 true (List.map GTerm.c i272_.1.gKids))])], []⟩ _ (by kernel_rfl) (.cons (cimpl_JoinedLists_d h275) .nil) ?_
      refine Wc.seq ?_
      refine Wc.seq ?_
      obtain ⟨e273_, h276, h⟩ := obind h
      rcases oif h with ⟨h277, h⟩ | ⟨h277, h⟩
      · refine Wc.region [{}, {}, { r := some (.v (.bool e273_) []) }, {}, { re := some (.bool true) }] [] [2, 3, 6, 7, 8, 9, 10, 11, 53] [2, 3, 6, 8, 9, 10] [] ⟨[(2, (.ptr 2 0, [])), (3, (.ptr 3 0, [])), (6, (.ptr 6 0, [])), (7, (.v (.bool i269_.2), [])), (8, (.ptr 8 0, [])), (9, (.ptr 9 0, [])), (10, (.ptr 10 0, [])), (11, (.v (.bool i272_.2), [])), (53, (.v (.bool true), []))], [(2, .cells [.int .i64 c263_.gKind, .str c263_.gName, .int .i64 c263_.gNum, .sl (List.map GTerm.c c263_.gKids)] []), (3, .cells [.int .i64 c264_.gKind, .str c264_.gName, .int .i64 c264_.gNum, .sl (List.map GTerm.c c264_.gKids)] []), (6, .cells [.int .i64 i269_.1.gKind, .str i269_.1.gName, .int .i64 i269_.1.gNum, .sl (List.map GTerm.c i269_.1.gKids)] []), (8, .cells [.int .i64 c270_.gKind, .str c270_.gName, .int .i64 c270_.gNum, .slx] [(3, .ex 37 true (List.map GTerm.c c270_.gKids))]), (9, .cells [.int .i64 c271_.gKind, .str c271_.gName, .int .i64 c271_.gNum, .slx] [(3, .ex 37 true (List.map GTerm.c c271_.gKids))]), (10, .cells [.int .i64 i272_.1.gKind, .str i272_.1.gName, .int .i64 i272_.1.gNum, .slx] [(3, .ex 37 true (List.map GTerm.c i272_.1.gKids))])], []⟩ _ (by kernel_rfl) (.cons (claws_eqTerm h276) (.cons (congrArg AV.bool h277) .nil)) ?_
        refine Wc.condT rfl (by kernel_rfl) ?_
        refine Wc.seq ?_
        refine Wc.region [] [] [4] [] [] ⟨[(4, (.v (.bool false), []))], [], []⟩ _ (by kernel_rfl) .nil ?_
        refine Wc.ret ?_
        obtain rfl := Option.some.inj h
        exact ⟨.inl rfl, by kernel_rfl, by kernel_rfl⟩
      · refine Wc.region [{}, {}, { r := some (.v (.bool e273_) []) }, {}, { re := some (.bool false) }] [] [2, 3, 6, 7, 8, 9, 10, 11, 53] [2, 3, 6, 8, 9, 10] [] ⟨[(2, (.ptr 2 0, [])), (3, (.ptr 3 0, [])), (6, (.ptr 6 0, [])), (7, (.v (.bool i269_.2), [])), (8, (.ptr 8 0, [])), (9, (.ptr 9 0, [])), (10, (.ptr 10 0, [])), (11, (.v (.bool i272_.2), [])), (53, (.v (.bool (!(i272_.2 == i269_.2))), []))], [(2, .cells [.int .i64 c263_.gKind, .str c263_.gName, .int .i64 c263_.gNum, .sl (List.map GTerm.c c263_.gKids)] []), (3, .cells [.int .i64 c264_.gKind, .str c264_.gName, .int .i64 c264_.gNum, .sl (List.map GTerm.c c264_.gKids)] []), (6, .cells [.int .i64 i269_.1.gKind, .str i269_.1.gName, .int .i64 i269_.1.gNum, .sl (List.map GTerm.c i269_.1.gKids)] []), (8, .cells [.int .i64 c270_.gKind, .str c270_.gName, .int .i64 c270_.gNum, .slx] [(3, .ex 37 true (List.map GTerm.c c270_.gKids))]), (9, .cells [.int .i64 c271_.gKind, .str c271_.gName, .int .i64 c271_.gNum, .slx] [(3, .ex 37 true (List.map GTerm.c c271_.gKids))]), (10, .cells [.int .i64 i272_.1.gKind, .str i272_.1.gName, .int .i64 i272_.1.gNum, .slx] [(3, .ex 37 true (List.map GTerm.c i272_.1.gKids))])], []⟩ _ (by kernel_rfl) (.cons (claws_eqTerm h276) (.cons (congrArg AV.bool h277) .nil)) ?_
        rcases oif h with ⟨h278, h⟩ | ⟨h278, h⟩
        · refine Wc.condT h278 (by kernel_rfl) ?_
          refine Wc.seq ?_
          refine Wc.region [] [] [4] [] [] ⟨[(4, (.v (.bool false), []))], [], []⟩ _ (by kernel_rfl) .nil ?_
          refine Wc.ret ?_
          obtain rfl := Option.some.inj h
          exact ⟨.inl rfl, by kernel_rfl, by kernel_rfl⟩
        · refine Wc.condF h278 (by kernel_rfl) ?_
          refine Wc.fix (st' := ⟨[(2, (.ptr 2 0, [])), (3, (.ptr 3 0, [])), (6, (.ptr 6 0, [])), (7, (.v (.bool i269_.2), [])), (8, (.ptr 8 0, [])), (9, (.ptr 9 0, [])), (10, (.ptr 10 0, [])), (11, (.v (.bool i272_.2), []))], [(2, .cells [.int .i64 c263_.gKind, .str c263_.gName, .int .i64 c263_.gNum, .sl (List.map GTerm.c c263_.gKids)] []), (3, .cells [.int .i64 c264_.gKind, .str c264_.gName, .int .i64 c264_.gNum, .sl (List.map GTerm.c c264_.gKids)] []), (6, .cells [.int .i64 i269_.1.gKind, .str i269_.1.gName, .int .i64 i269_.1.gNum, .sl (List.map GTerm.c i269_.1.gKids)] []), (8, .cells [.int .i64 c270_.gKind, .str c270_.gName, .int .i64 c270_.gNum, .slx] [(3, .ex 37 true (List.map GTerm.c c270_.gKids))]), (9, .cells [.int .i64 c271_.gKind, .str c271_.gName, .int .i64 c271_.gNum, .slx] [(3, .ex 37 true (List.map GTerm.c c271_.gKids))]), (10, .cells [.int .i64 i272_.1.gKind, .str i272_.1.gName, .int .i64 i272_.1.gNum, .slx] [(3, .ex 37 true (List.map GTerm.c i272_.1.gKids))])], []⟩) [] [2, 3, 6, 7, 8, 9, 10, 11] [2, 3, 6, 8, 9, 10] [] (by kernel_rfl) ?_
          refine Wc.skip ?_
          refine Wc.seq ?_
          refine Wc.seq ?_
          obtain ⟨c274_, h279, h⟩ := obind h
          obtain ⟨e275_, h280, h⟩ := obind h
          refine Wc.draw hmix [{}, {}, { r := some (.v (.agg [.int .i64 c274_.gKind, .str c274_.gName, .int .i64 c274_.gNum, .sl (List.map GTerm.c c274_.gKids)]) []) }, { r := some (.v (.bool e275_) []) }] [] [2, 3, 6, 7, 8, 9, 10, 11, 58] [2, 3, 6, 8, 9, 10] [] ⟨[(2, (.ptr 2 0, [])), (3, (.ptr 3 0, [])), (6, (.ptr 6 0, [])), (7, (.v (.bool i269_.2), [])), (8, (.ptr 8 0, [])), (9, (.ptr 9 0, [])), (10, (.ptr 10 0, [])), (11, (.v (.bool i272_.2), [])), (58, (.v (.bool (!e275_)), []))], [(2, .cells [.int .i64 c263_.gKind, .str c263_.gName, .int .i64 c263_.gNum, .sl (List.map GTerm.c c263_.gKids)] []), (3, .cells [.int .i64 c264_.gKind, .str c264_.gName, .int .i64 c264_.gNum, .sl (List.map GTerm.c c264_.gKids)] []), (6, .cells [.int .i64 i269_.1.gKind, .str i269_.1.gName, .int .i64 i269_.1.gNum, .sl (List.map GTerm.c i269_.1.gKids)] []), (8, .cells [.int .i64 c270_.gKind, .str c270_.gName, .int .i64 c270_.gNum, .slx] [(3, .ex 37 true (List.map GTerm.c c270_.gKids))]), (9, .cells [.int .i64 c271_.gKind, .str c271_.gName, .int .i64 c271_.gNum, .slx] [(3, .ex 37 true (List.map GTerm.c c271_.gKids))]), (10, .cells [.int .i64 i272_.1.gKind, .str i272_.1.gName, .int .i64 i272_.1.gNum, .slx] [(3, .ex 37 true (List.map GTerm.c i272_.1.gKids))])], []⟩ _ (by kernel_rfl) (fun X => by kernel_rfl) (.cons (claws_toTerm h279) (.cons (claws_eqTerm h280) .nil)) ?_
          rcases oif h with ⟨h281, h⟩ | ⟨h281, h⟩
          · refine Wc.condT h281 (by kernel_rfl) ?_
            refine Wc.seq ?_
            refine Wc.region [] [] [4] [] [] ⟨[(4, (.v (.bool false), []))], [], []⟩ _ (by kernel_rfl) .nil ?_
            refine Wc.ret ?_
            obtain rfl := Option.some.inj h
            exact ⟨.inl rfl, by kernel_rfl, by kernel_rfl⟩
          · refine Wc.condF h281 (by kernel_rfl) ?_
            refine Wc.fix (st' := ⟨[(2, (.ptr 2 0, [])), (3, (.ptr 3 0, [])), (6, (.ptr 6 0, [])), (7, (.v (.bool i269_.2), [])), (8, (.ptr 8 0, [])), (9, (.ptr 9 0, [])), (10, (.ptr 10 0, [])), (11, (.v (.bool i272_.2), []))], [(2, .cells [.int .i64 c263_.gKind, .str c263_.gName, .int .i64 c263_.gNum, .sl (List.map GTerm.c c263_.gKids)] []), (3, .cells [.int .i64 c264_.gKind, .str c264_.gName, .int .i64 c264_.gNum, .sl (List.map GTerm.c c264_.gKids)] []), (6, .cells [.int .i64 i269_.1.gKind, .str i269_.1.gName, .int .i64 i269_.1.gNum, .sl (List.map GTerm.c i269_.1.gKids)] []), (8, .cells [.int .i64 c270_.gKind, .str c270_.gName, .int .i64 c270_.gNum, .slx] [(3, .ex 37 true (List.map GTerm.c c270_.gKids))]), (9, .cells [.int .i64 c271_.gKind, .str c271_.gName, .int .i64 c271_.gNum, .slx] [(3, .ex 37 true (List.map GTerm.c c271_.gKids))]), (10, .cells [.int .i64 i272_.1.gKind, .str i272_.1.gName, .int .i64 i272_.1.gNum, .slx] [(3, .ex 37 true (List.map GTerm.c i272_.1.gKids))])], []⟩) [] [2, 3, 6, 7, 8, 9, 10, 11] [2, 3, 6, 8, 9, 10] [] (by kernel_rfl) ?_
            refine Wc.skip ?_
            refine Wc.seq ?_
            refine Wc.seq ?_
            obtain ⟨c276_, h282, h⟩ := obind h
            obtain ⟨e277_, h283, h⟩ := obind h
            refine Wc.draw hmix [{}, {}, { r := some (.v (.agg [.int .i64 c276_.gKind, .str c276_.gName, .int .i64 c276_.gNum, .sl (List.map GTerm.c c276_.gKids)]) []) }, { r := some (.v (.bool e277_) []) }] [] [2, 3, 6, 7, 8, 9, 10, 11, 63] [2, 3, 6, 8, 9, 10] [] ⟨[(2, (.ptr 2 0, [])), (3, (.ptr 3 0, [])), (6, (.ptr 6 0, [])), (7, (.v (.bool i269_.2), [])), (8, (.ptr 8 0, [])), (9, (.ptr 9 0, [])), (10, (.ptr 10 0, [])), (11, (.v (.bool i272_.2), [])), (63, (.v (.bool (!e277_)), []))], [(2, .cells [.int .i64 c263_.gKind, .str c263_.gName, .int .i64 c263_.gNum, .sl (List.map GTerm.c c263_.gKids)] []), (3, .cells [.int .i64 c264_.gKind, .str c264_.gName, .int .i64 c264_.gNum, .sl (List.map GTerm.c c264_.gKids)] []), (6, .cells [.int .i64 i269_.1.gKind, .str i269_.1.gName, .int .i64 i269_.1.gNum, .sl (List.map GTerm.c i269_.1.gKids)] []), (8, .cells [.int .i64 c270_.gKind, .str c270_.gName, .int .i64 c270_.gNum, .slx] [(3, .ex 37 true (List.map GTerm.c c270_.gKids))]), (9, .cells [.int .i64 c271_.gKind, .str c271_.gName, .int .i64 c271_.gNum, .slx] [(3, .ex 37 true (List.map GTerm.c c271_.gKids))]), (10, .cells [.int .i64 i272_.1.gKind, .str i272_.1.gName, .int .i64 i272_.1.gNum, .slx] [(3, .ex 37 true (List.map GTerm.c i272_.1.gKids))])], []⟩ _ (by kernel_rfl) (fun X => by kernel_rfl) (.cons (claws_toTerm h282) (.cons (claws_eqTerm h283) .nil)) ?_
            rcases oif h with ⟨h284, h⟩ | ⟨h284, h⟩
            · refine Wc.condT h284 (by kernel_rfl) ?_
              refine Wc.seq ?_
              refine Wc.region [] [] [4] [] [] ⟨[(4, (.v (.bool false), []))], [], []⟩ _ (by kernel_rfl) .nil ?_
              refine Wc.ret ?_
              obtain rfl := Option.some.inj h
              exact ⟨.inl rfl, by kernel_rfl, by kernel_rfl⟩
            · refine Wc.condF h284 (by kernel_rfl) ?_
              refine Wc.fix (st' := ⟨[(2, (.ptr 2 0, [])), (3, (.ptr 3 0, [])), (6, (.ptr 6 0, [])), (7, (.v (.bool i269_.2), [])), (8, (.ptr 8 0, [])), (9, (.ptr 9 0, [])), (10, (.ptr 10 0, [])), (11, (.v (.bool i272_.2), []))], [(2, .cells [.int .i64 c263_.gKind, .str c263_.gName, .int .i64 c263_.gNum, .sl (List.map GTerm.c c263_.gKids)] []), (3, .cells [.int .i64 c264_.gKind, .str c264_.gName, .int .i64 c264_.gNum, .sl (List.map GTerm.c c264_.gKids)] []), (6, .cells [.int .i64 i269_.1.gKind, .str i269_.1.gName, .int .i64 i269_.1.gNum, .sl (List.map GTerm.c i269_.1.gKids)] []), (8, .cells [.int .i64 c270_.gKind, .str c270_.gName, .int .i64 c270_.gNum, .slx] [(3, .ex 37 true (List.map GTerm.c c270_.gKids))]), (9, .cells [.int .i64 c271_.gKind, .str c271_.gName, .int .i64 c271_.gNum, .slx] [(3, .ex 37 true (List.map GTerm.c c271_.gKids))]), (10, .cells [.int .i64 i272_.1.gKind, .str i272_.1.gName, .int .i64 i272_.1.gNum, .slx] [(3, .ex 37 true (List.map GTerm.c i272_.1.gKids))])], []⟩) [] [2, 3, 6, 7, 8, 9, 10, 11] [2, 3, 6, 8, 9, 10] [] (by kernel_rfl) ?_
              refine Wc.skip ?_
              refine Wc.seq ?_
              refine Wc.region [] [] [2, 3, 6, 7, 8, 9, 10, 11, 12] [2, 3, 6, 8, 9, 10] [] ⟨[(2, (.ptr 2 0, [])), (3, (.ptr 3 0, [])), (6, (.ptr 6 0, [])), (7, (.v (.bool i269_.2), [])), (8, (.ptr 8 0, [])), (9, (.ptr 9 0, [])), (10, (.ptr 10 0, [])), (11, (.v (.bool i272_.2), [])), (12, (.v (.int .i64 1), []))], [(2, .cells [.int .i64 c263_.gKind, .str c263_.gName, .int .i64 c263_.gNum, .sl (List.map GTerm.c c263_.gKids)] []), (3, .cells [.int .i64 c264_.gKind, .str c264_.gName, .int .i64 c264_.gNum, .sl (List.map GTerm.c c264_.gKids)] []), (6, .cells [.int .i64 i269_.1.gKind, .str i269_.1.gName, .int .i64 i269_.1.gNum, .sl (List.map GTerm.c i269_.1.gKids)] []), (8, .cells [.int .i64 c270_.gKind, .str c270_.gName, .int .i64 c270_.gNum, .slx] [(3, .ex 37 true (List.map GTerm.c c270_.gKids))]), (9, .cells [.int .i64 c271_.gKind, .str c271_.gName, .int .i64 c271_.gNum, .slx] [(3, .ex 37 true (List.map GTerm.c c271_.gKids))]), (10, .cells [.int .i64 i272_.1.gKind, .str i272_.1.gName, .int .i64 i272_.1.gNum, .slx] [(3, .ex 37 true (List.map GTerm.c i272_.1.gKids))])], []⟩ _ (by kernel_rfl) .nil ?_
              refine Wc.seq ?_
              obtain ⟨l278_, h285, h⟩ := obind h
              refine Wc.region [{}, {}, { io := [0], r := some (.v (.int .i64 l278_.2) []), outs := [(0, .v .undef [(3, .ex 1000000007 true (List.map GTerm.c l278_.1.gKids))])] }] [] [2, 3, 6, 7, 9, 10, 11, 12] [2, 3, 6, 9, 10] [] ⟨[(2, (.ptr 2 0, [])), (3, (.ptr 3 0, [])), (6, (.ptr 6 0, [])), (7, (.v (.bool i269_.2), [])), (9, (.ptr 9 0, [])), (10, (.ptr 10 0, [])), (11, (.v (.bool i272_.2), [])), (12, (.v (.int .i64 l278_.2), []))], [(2, .cells [.int .i64 c263_.gKind, .str c263_.gName, .int .i64 c263_.gNum, .sl (List.map GTerm.c c263_.gKids)] []), (3, .cells [.int .i64 c264_.gKind, .str c264_.gName, .int .i64 c264_.gNum, .sl (List.map GTerm.c c264_.gKids)] []), (6, .cells [.int .i64 i269_.1.gKind, .str i269_.1.gName, .int .i64 i269_.1.gNum, .sl (List.map GTerm.c i269_.1.gKids)] []), (9, .cells [.int .i64 c271_.gKind, .str c271_.gName, .int .i64 c271_.gNum, .slx] [(3, .ex 37 true (List.map GTerm.c c271_.gKids))]), (10, .cells [.int .i64 i272_.1.gKind, .str i272_.1.gName, .int .i64 i272_.1.gNum, .slx] [(3, .ex 37 true (List.map GTerm.c i272_.1.gKids))])], []⟩ _ (by kernel_rfl) (.cons (FnO.any (args := [.io (.agg [.int .i64 c270_.gKind, .str c270_.gName, .int .i64 c270_.gNum, .slx]) [(3, .ex 37 true (List.map GTerm.c c270_.gKids))], .v (.int .i64 1) []]) (claws_markTerm h285)) .nil) ?_
              refine Wc.seq ?_
              obtain ⟨l279_, h286, h⟩ := obind h
              refine Wc.region [{}, {}, { io := [0], r := some (.v (.int .i64 l279_.2) []), outs := [(0, .v .undef [(3, .ex 1000000007 true (List.map GTerm.c l279_.1.gKids))])] }] [] [2, 3, 6, 7, 10, 11, 12] [2, 3, 6, 10] [] ⟨[(2, (.ptr 2 0, [])), (3, (.ptr 3 0, [])), (6, (.ptr 6 0, [])), (7, (.v (.bool i269_.2), [])), (10, (.ptr 10 0, [])), (11, (.v (.bool i272_.2), [])), (12, (.v (.int .i64 l279_.2), []))], [(2, .cells [.int .i64 c263_.gKind, .str c263_.gName, .int .i64 c263_.gNum, .sl (List.map GTerm.c c263_.gKids)] []), (3, .cells [.int .i64 c264_.gKind, .str c264_.gName, .int .i64 c264_.gNum, .sl (List.map GTerm.c c264_.gKids)] []), (6, .cells [.int .i64 i269_.1.gKind, .str i269_.1.gName, .int .i64 i269_.1.gNum, .sl (List.map GTerm.c i269_.1.gKids)] []), (10, .cells [.int .i64 i272_.1.gKind, .str i272_.1.gName, .int .i64 i272_.1.gNum, .slx] [(3, .ex 37 true (List.map GTerm.c i272_.1.gKids))])], []⟩ _ (by kernel_rfl) (.cons (FnO.any (args := [.io (.agg [.int .i64 c271_.gKind, .str c271_.gName, .int .i64 c271_.gNum, .slx]) [(3, .ex 37 true (List.map GTerm.c c271_.gKids))], .v (.int .i64 l278_.2) []]) (claws_markTerm h286)) .nil) ?_
              refine Wc.seq ?_
              refine Wc.seq ?_
              rcases oif h with ⟨h287, h⟩ | ⟨h287, h⟩
              · refine Wc.region [{}, {}, { re := some (.bool true) }] [] [2, 3, 6, 7, 10, 82] [2, 3, 6, 10] [] ⟨[(2, (.ptr 2 0, [])), (3, (.ptr 3 0, [])), (6, (.ptr 6 0, [])), (7, (.v (.bool i269_.2), [])), (10, (.ptr 10 0, [])), (82, (.v (.bool true), []))], [(2, .cells [.int .i64 c263_.gKind, .str c263_.gName, .int .i64 c263_.gNum, .sl (List.map GTerm.c c263_.gKids)] []), (3, .cells [.int .i64 c264_.gKind, .str c264_.gName, .int .i64 c264_.gNum, .sl (List.map GTerm.c c264_.gKids)] []), (6, .cells [.int .i64 i269_.1.gKind, .str i269_.1.gName, .int .i64 i269_.1.gNum, .sl (List.map GTerm.c i269_.1.gKids)] []), (10, .cells [.int .i64 i272_.1.gKind, .str i272_.1.gName, .int .i64 i272_.1.gNum, .slx] [(3, .ex 37 true (List.map GTerm.c i272_.1.gKids))])], []⟩ _ (by kernel_rfl) (.cons (congrArg AV.bool h287) .nil) ?_
                refine Wc.condT rfl (by kernel_rfl) ?_
                refine Wc.seq ?_
                refine Wc.region [] [] [4] [] [] ⟨[(4, (.v (.bool false), []))], [], []⟩ _ (by kernel_rfl) .nil ?_
                refine Wc.ret ?_
                obtain rfl := Option.some.inj h
                exact ⟨.inl rfl, by kernel_rfl, by kernel_rfl⟩
              · obtain ⟨e280_, h288, h⟩ := obind h
                rcases oif h with ⟨h289, h⟩ | ⟨h289, h⟩
                · refine Wc.region [{}, {}, { re := some (.bool false) }, {}, {}, { r := some (.v (.bool e280_) []) }, {}, {}, { re := some (.bool true) }] [] [2, 3, 6, 7, 10, 82] [2, 3, 6, 10] [] ⟨[(2, (.ptr 2 0, [])), (3, (.ptr 3 0, [])), (6, (.ptr 6 0, [])), (7, (.v (.bool i269_.2), [])), (10, (.ptr 10 0, [])), (82, (.v (.bool true), []))], [(2, .cells [.int .i64 c263_.gKind, .str c263_.gName, .int .i64 c263_.gNum, .sl (List.map GTerm.c c263_.gKids)] []), (3, .cells [.int .i64 c264_.gKind, .str c264_.gName, .int .i64 c264_.gNum, .sl (List.map GTerm.c c264_.gKids)] []), (6, .cells [.int .i64 i269_.1.gKind, .str i269_.1.gName, .int .i64 i269_.1.gNum, .sl (List.map GTerm.c i269_.1.gKids)] []), (10, .cells [.int .i64 i272_.1.gKind, .str i272_.1.gName, .int .i64 i272_.1.gNum, .slx] [(3, .ex 37 true (List.map GTerm.c i272_.1.gKids))])], []⟩ _ (by kernel_rfl) (.cons (congrArg AV.bool h287) (.cons (claws_eqTerm h288) (.cons (congrArg AV.bool h289) .nil))) ?_
                  refine Wc.condT rfl (by kernel_rfl) ?_
                  refine Wc.seq ?_
                  refine Wc.region [] [] [4] [] [] ⟨[(4, (.v (.bool false), []))], [], []⟩ _ (by kernel_rfl) .nil ?_
                  refine Wc.ret ?_
                  obtain rfl := Option.some.inj h
                  exact ⟨.inl rfl, by kernel_rfl, by kernel_rfl⟩
                · refine Wc.region [{}, {}, { re := some (.bool false) }, {}, {}, { r := some (.v (.bool e280_) []) }, {}, {}, { re := some (.bool false) }] [] [2, 3, 6, 7, 10, 82] [2, 3, 6, 10] [] ⟨[(2, (.ptr 2 0, [])), (3, (.ptr 3 0, [])), (6, (.ptr 6 0, [])), (7, (.v (.bool i269_.2), [])), (10, (.ptr 10 0, [])), (82, (.v (.bool (!(i272_.2 == i269_.2))), []))], [(2, .cells [.int .i64 c263_.gKind, .str c263_.gName, .int .i64 c263_.gNum, .sl (List.map GTerm.c c263_.gKids)] []), (3, .cells [.int .i64 c264_.gKind, .str c264_.gName, .int .i64 c264_.gNum, .sl (List.map GTerm.c c264_.gKids)] []), (6, .cells [.int .i64 i269_.1.gKind, .str i269_.1.gName, .int .i64 i269_.1.gNum, .sl (List.map GTerm.c i269_.1.gKids)] []), (10, .cells [.int .i64 i272_.1.gKind, .str i272_.1.gName, .int .i64 i272_.1.gNum, .slx] [(3, .ex 37 true (List.map GTerm.c i272_.1.gKids))])], []⟩ _ (by kernel_rfl) (.cons (congrArg AV.bool h287) (.cons (claws_eqTerm h288) (.cons (congrArg AV.bool h289) .nil))) ?_
                  rcases oif h with ⟨h290, h⟩ | ⟨h290, h⟩
                  · refine Wc.condT h290 (by kernel_rfl) ?_
                    refine Wc.seq ?_
                    refine Wc.region [] [] [4] [] [] ⟨[(4, (.v (.bool false), []))], [], []⟩ _ (by kernel_rfl) .nil ?_
                    refine Wc.ret ?_
                    obtain rfl := Option.some.inj h
                    exact ⟨.inl rfl, by kernel_rfl, by kernel_rfl⟩
                  · refine Wc.condF h290 (by kernel_rfl) ?_
                    refine Wc.fix (st' := ⟨[(2, (.ptr 2 0, [])), (3, (.ptr 3 0, [])), (6, (.ptr 6 0, [])), (7, (.v (.bool i269_.2), [])), (10, (.ptr 10 0, []))], [(2, .cells [.int .i64 c263_.gKind, .str c263_.gName, .int .i64 c263_.gNum, .sl (List.map GTerm.c c263_.gKids)] []), (3, .cells [.int .i64 c264_.gKind, .str c264_.gName, .int .i64 c264_.gNum, .sl (List.map GTerm.c c264_.gKids)] []), (6, .cells [.int .i64 i269_.1.gKind, .str i269_.1.gName, .int .i64 i269_.1.gNum, .sl (List.map GTerm.c i269_.1.gKids)] []), (10, .cells [.int .i64 i272_.1.gKind, .str i272_.1.gName, .int .i64 i272_.1.gNum, .slx] [(3, .ex 37 true (List.map GTerm.c i272_.1.gKids))])], []⟩) [] [2, 3, 6, 7, 10] [2, 3, 6, 10] [] (by kernel_rfl) ?_
                    refine Wc.skip ?_
                    refine Wc.seq ?_
                    refine Wc.region [] [] [2, 3, 6, 7, 10, 13] [2, 3, 6, 10] [] ⟨[(2, (.ptr 2 0, [])), (3, (.ptr 3 0, [])), (6, (.ptr 6 0, [])), (7, (.v (.bool i269_.2), [])), (10, (.ptr 10 0, [])), (13, (.v (.int .i64 1), []))], [(2, .cells [.int .i64 c263_.gKind, .str c263_.gName, .int .i64 c263_.gNum, .sl (List.map GTerm.c c263_.gKids)] []), (3, .cells [.int .i64 c264_.gKind, .str c264_.gName, .int .i64 c264_.gNum, .sl (List.map GTerm.c c264_.gKids)] []), (6, .cells [.int .i64 i269_.1.gKind, .str i269_.1.gName, .int .i64 i269_.1.gNum, .sl (List.map GTerm.c i269_.1.gKids)] []), (10, .cells [.int .i64 i272_.1.gKind, .str i272_.1.gName, .int .i64 i272_.1.gNum, .slx] [(3, .ex 37 true (List.map GTerm.c i272_.1.gKids))])], []⟩ _ (by kernel_rfl) .nil ?_
                    refine Wc.seq ?_
                    obtain ⟨l281_, h291, h⟩ := obind h
                    refine Wc.region [{}, {}, { io := [0], r := some (.v (.int .i64 l281_.2) []), outs := [(0, .v .undef [(3, .ex 1000000007 true (List.map GTerm.c l281_.1.gKids))])] }] [] [2, 3, 6, 7, 10, 13] [2, 3, 6, 10] [] ⟨[(2, (.ptr 2 0, [])), (3, (.ptr 3 0, [])), (6, (.ptr 6 0, [])), (7, (.v (.bool i269_.2), [])), (10, (.ptr 10 0, [])), (13, (.v (.int .i64 l281_.2), []))], [(2, .cells [.int .i64 c263_.gKind, .str c263_.gName, .int .i64 c263_.gNum, .sl (List.map GTerm.c c263_.gKids)] []), (3, .cells [.int .i64 c264_.gKind, .str c264_.gName, .int .i64 c264_.gNum, .sl (List.map GTerm.c c264_.gKids)] []), (6, .cells [.int .i64 i269_.1.gKind, .str i269_.1.gName, .int .i64 i269_.1.gNum, .sl (List.map GTerm.c i269_.1.gKids)] []), (10, .cells [.int .i64 i272_.1.gKind, .str i272_.1.gName, .int .i64 i272_.1.gNum, .slx] [(3, .ex 1000000007 true (List.map GTerm.c l281_.1.gKids))])], []⟩ _ (by kernel_rfl) (.cons (FnO.any (args := [.io (.agg [.int .i64 i272_.1.gKind, .str i272_.1.gName, .int .i64 i272_.1.gNum, .slx]) [(3, .ex 37 true (List.map GTerm.c i272_.1.gKids))], .v (.int .i64 1) []]) (claws_markTerm h291)) .nil) ?_
                    refine Wc.seq ?_
                    refine Wc.region [] [] [2, 3, 6, 7, 10, 13, 14] [2, 3, 6, 10] [] ⟨[(2, (.ptr 2 0, [])), (3, (.ptr 3 0, [])), (6, (.ptr 6 0, [])), (7, (.v (.bool i269_.2), [])), (10, (.ptr 10 0, [])), (13, (.v (.int .i64 l281_.2), [])), (14, (.v (.int .i64 1), []))], [(2, .cells [.int .i64 c263_.gKind, .str c263_.gName, .int .i64 c263_.gNum, .sl (List.map GTerm.c c263_.gKids)] []), (3, .cells [.int .i64 c264_.gKind, .str c264_.gName, .int .i64 c264_.gNum, .sl (List.map GTerm.c c264_.gKids)] []), (6, .cells [.int .i64 i269_.1.gKind, .str i269_.1.gName, .int .i64 i269_.1.gNum, .sl (List.map GTerm.c i269_.1.gKids)] []), (10, .cells [.int .i64 i272_.1.gKind, .str i272_.1.gName, .int .i64 i272_.1.gNum, .slx] [(3, .ex 1000000007 true (List.map GTerm.c l281_.1.gKids))])], []⟩ _ (by kernel_rfl) .nil ?_
                    refine Wc.seq ?_
                    obtain ⟨b282_, h292, h⟩ := obind h
                    refine Wc.region [{}, {}, { r := some (.v (.int .i64 b282_) []) }] [] [2, 3, 6, 7, 10, 13, 14] [2, 3, 6, 10] [] ⟨[(2, (.ptr 2 0, [])), (3, (.ptr 3 0, [])), (6, (.ptr 6 0, [])), (7, (.v (.bool i269_.2), [])), (10, (.ptr 10 0, [])), (13, (.v (.int .i64 l281_.2), [])), (14, (.v (.int .i64 b282_), []))], [(2, .cells [.int .i64 c263_.gKind, .str c263_.gName, .int .i64 c263_.gNum, .sl (List.map GTerm.c c263_.gKids)] []), (3, .cells [.int .i64 c264_.gKind, .str c264_.gName, .int .i64 c264_.gNum, .sl (List.map GTerm.c c264_.gKids)] []), (6, .cells [.int .i64 i269_.1.gKind, .str i269_.1.gName, .int .i64 i269_.1.gNum, .sl (List.map GTerm.c i269_.1.gKids)] []), (10, .cells [.int .i64 i272_.1.gKind, .str i272_.1.gName, .int .i64 i272_.1.gNum, .slx] [(3, .ex 1000000007 true (List.map GTerm.c l281_.1.gKids))])], []⟩ _ (by kernel_rfl) (.cons (claws_heldTerm h292) .nil) ?_
                    refine Wc.seq ?_
                    refine Wc.seq ?_
                    refine Wc.region [] [] [2, 3, 6, 7, 10, 13, 14, 90] [2, 3, 6, 10] [] ⟨[(2, (.ptr 2 0, [])), (3, (.ptr 3 0, [])), (6, (.ptr 6 0, [])), (7, (.v (.bool i269_.2), [])), (10, (.ptr 10 0, [])), (13, (.v (.int .i64 l281_.2), [])), (14, (.v (.int .i64 b282_), [])), (90, (.v (.bool (decide (b282_ < 0))), []))], [(2, .cells [.int .i64 c263_.gKind, .str c263_.gName, .int .i64 c263_.gNum, .sl (List.map GTerm.c c263_.gKids)] []), (3, .cells [.int .i64 c264_.gKind, .str c264_.gName, .int .i64 c264_.gNum, .sl (List.map GTerm.c c264_.gKids)] []), (6, .cells [.int .i64 i269_.1.gKind, .str i269_.1.gName, .int .i64 i269_.1.gNum, .sl (List.map GTerm.c i269_.1.gKids)] []), (10, .cells [.int .i64 i272_.1.gKind, .str i272_.1.gName, .int .i64 i272_.1.gNum, .slx] [(3, .ex 1000000007 true (List.map GTerm.c l281_.1.gKids))])], []⟩ _ (by kernel_rfl) .nil ?_
                    rcases oif h with ⟨h293, h⟩ | ⟨h293, h⟩
                    · refine Wc.condT h293 (by kernel_rfl) ?_
                      refine Wc.seq ?_
                      refine Wc.region [] [] [4] [] [] ⟨[(4, (.v (.bool false), []))], [], []⟩ _ (by kernel_rfl) .nil ?_
                      refine Wc.ret ?_
                      obtain rfl := Option.some.inj h
                      exact ⟨.inl rfl, by kernel_rfl, by kernel_rfl⟩
                    · refine Wc.condF h293 (by kernel_rfl) ?_
                      refine Wc.fix (st' := ⟨[(2, (.ptr 2 0, [])), (3, (.ptr 3 0, [])), (6, (.ptr 6 0, [])), (7, (.v (.bool i269_.2), [])), (10, (.ptr 10 0, [])), (13, (.v (.int .i64 l281_.2), [])), (14, (.v (.int .i64 b282_), []))], [(2, .cells [.int .i64 c263_.gKind, .str c263_.gName, .int .i64 c263_.gNum, .sl (List.map GTerm.c c263_.gKids)] []), (3, .cells [.int .i64 c264_.gKind, .str c264_.gName, .int .i64 c264_.gNum, .sl (List.map GTerm.c c264_.gKids)] []), (6, .cells [.int .i64 i269_.1.gKind, .str i269_.1.gName, .int .i64 i269_.1.gNum, .sl (List.map GTerm.c i269_.1.gKids)] []), (10, .cells [.int .i64 i272_.1.gKind, .str i272_.1.gName, .int .i64 i272_.1.gNum, .slx] [(3, .ex 1000000007 true (List.map GTerm.c l281_.1.gKids))])], []⟩) [] [2, 3, 6, 7, 10, 13, 14] [2, 3, 6, 10] [] (by kernel_rfl) ?_
                      refine Wc.skip ?_
                      refine Wc.seq ?_
                      refine Wc.seq ?_
                      refine Wc.region [] [] [2, 3, 6, 7, 10, 13, 93] [2, 3, 6, 10] [] ⟨[(2, (.ptr 2 0, [])), (3, (.ptr 3 0, [])), (6, (.ptr 6 0, [])), (7, (.v (.bool i269_.2), [])), (10, (.ptr 10 0, [])), (13, (.v (.int .i64 l281_.2), [])), (93, (.v (.bool (b282_ != l281_.2)), []))], [(2, .cells [.int .i64 c263_.gKind, .str c263_.gName, .int .i64 c263_.gNum, .sl (List.map GTerm.c c263_.gKids)] []), (3, .cells [.int .i64 c264_.gKind, .str c264_.gName, .int .i64 c264_.gNum, .sl (List.map GTerm.c c264_.gKids)] []), (6, .cells [.int .i64 i269_.1.gKind, .str i269_.1.gName, .int .i64 i269_.1.gNum, .sl (List.map GTerm.c i269_.1.gKids)] []), (10, .cells [.int .i64 i272_.1.gKind, .str i272_.1.gName, .int .i64 i272_.1.gNum, .slx] [(3, .ex 1000000007 true (List.map GTerm.c l281_.1.gKids))])], []⟩ _ (by kernel_rfl) .nil ?_
                      rcases oif h with ⟨h294, h⟩ | ⟨h294, h⟩
                      · refine Wc.condT h294 (by kernel_rfl) ?_
                        refine Wc.seq ?_
                        refine Wc.region [] [] [4] [] [] ⟨[(4, (.v (.bool false), []))], [], []⟩ _ (by kernel_rfl) .nil ?_
                        refine Wc.ret ?_
                        obtain rfl := Option.some.inj h
                        exact ⟨.inl rfl, by kernel_rfl, by kernel_rfl⟩
                      · refine Wc.condF h294 (by kernel_rfl) ?_
                        refine Wc.fix (st' := ⟨[(2, (.ptr 2 0, [])), (3, (.ptr 3 0, [])), (6, (.ptr 6 0, [])), (7, (.v (.bool i269_.2), [])), (10, (.ptr 10 0, [])), (13, (.v (.int .i64 l281_.2), []))], [(2, .cells [.int .i64 c263_.gKind, .str c263_.gName, .int .i64 c263_.gNum, .sl (List.map GTerm.c c263_.gKids)] []), (3, .cells [.int .i64 c264_.gKind, .str c264_.gName, .int .i64 c264_.gNum, .sl (List.map GTerm.c c264_.gKids)] []), (6, .cells [.int .i64 i269_.1.gKind, .str i269_.1.gName, .int .i64 i269_.1.gNum, .sl (List.map GTerm.c i269_.1.gKids)] []), (10, .cells [.int .i64 i272_.1.gKind, .str i272_.1.gName, .int .i64 i272_.1.gNum, .slx] [(3, .ex 1000000007 true (List.map GTerm.c l281_.1.gKids))])], []⟩) [] [2, 3, 6, 7, 10, 13] [2, 3, 6, 10] [] (by kernel_rfl) ?_
                        refine Wc.skip ?_
                        refine Wc.seq ?_
                        obtain ⟨c283_, h295, h⟩ := obind h
                        obtain ⟨c284_, h296, h⟩ := obind h
                        obtain ⟨i285_, h297, h⟩ := obind h
                        refine Wc.draw hmix [{}, { r := some (.v (.agg [.int .i64 c283_.gKind, .str c283_.gName, .int .i64 c283_.gNum, .sl (List.map GTerm.c c283_.gKids)]) []) }, {}, { r := some (.v (.agg [.int .i64 c284_.gKind, .str c284_.gName, .int .i64 c284_.gNum, .sl (List.map GTerm.c c284_.gKids)]) []) }, { r := some (.v (.tup [.agg [.int .i64 i285_.1.gKind, .str i285_.1.gName, .int .i64 i285_.1.gNum, .sl (List.map GTerm.c i285_.1.gKids)], .bool i285_.2]) []) }] [] [6, 7, 10, 13, 15, 16] [6, 10, 15] [] ⟨[(6, (.ptr 6 0, [])), (7, (.v (.bool i269_.2), [])), (10, (.ptr 10 0, [])), (13, (.v (.int .i64 l281_.2), [])), (15, (.ptr 15 0, [])), (16, (.v (.bool i285_.2), []))], [(6, .cells [.int .i64 i269_.1.gKind, .str i269_.1.gName, .int .i64 i269_.1.gNum, .sl (List.map GTerm.c i269_.1.gKids)] []), (10, .cells [.int .i64 i272_.1.gKind, .str i272_.1.gName, .int .i64 i272_.1.gNum, .slx] [(3, .ex 1000000007 true (List.map GTerm.c l281_.1.gKids))]), (15, .cells [.int .i64 i285_.1.gKind, .str i285_.1.gName, .int .i64 i285_.1.gNum, .sl (List.map GTerm.c i285_.1.gKids)] [])], []⟩ _ (by kernel_rfl) (fun X => by kernel_rfl) (.cons (claws_toTerm h295) (.cons (claws_toTerm h296) (.cons (cimpl_JoinedLists h297) .nil))) ?_
                        refine Wc.seq ?_
                        refine Wc.seq ?_
                        obtain ⟨e286_, h298, h⟩ := obind h
                        rcases oif h with ⟨h299, h⟩ | ⟨h299, h⟩
                        · refine Wc.region [{}, {}, { r := some (.v (.bool e286_) []) }, {}, { re := some (.bool true) }] [] [10, 13, 110] [10] [] ⟨[(10, (.ptr 10 0, [])), (13, (.v (.int .i64 l281_.2), [])), (110, (.v (.bool true), []))], [(10, .cells [.int .i64 i272_.1.gKind, .str i272_.1.gName, .int .i64 i272_.1.gNum, .slx] [(3, .ex 1000000007 true (List.map GTerm.c l281_.1.gKids))])], []⟩ _ (by kernel_rfl) (.cons (claws_eqTerm h298) (.cons (congrArg AV.bool h299) .nil)) ?_
                          refine Wc.condT rfl (by kernel_rfl) ?_
                          refine Wc.seq ?_
                          refine Wc.region [] [] [4] [] [] ⟨[(4, (.v (.bool false), []))], [], []⟩ _ (by kernel_rfl) .nil ?_
                          refine Wc.ret ?_
                          obtain rfl := Option.some.inj h
                          exact ⟨.inl rfl, by kernel_rfl, by kernel_rfl⟩
                        · refine Wc.region [{}, {}, { r := some (.v (.bool e286_) []) }, {}, { re := some (.bool false) }] [] [10, 13, 110] [10] [] ⟨[(10, (.ptr 10 0, [])), (13, (.v (.int .i64 l281_.2), [])), (110, (.v (.bool (!(i285_.2 == i269_.2))), []))], [(10, .cells [.int .i64 i272_.1.gKind, .str i272_.1.gName, .int .i64 i272_.1.gNum, .slx] [(3, .ex 1000000007 true (List.map GTerm.c l281_.1.gKids))])], []⟩ _ (by kernel_rfl) (.cons (claws_eqTerm h298) (.cons (congrArg AV.bool h299) .nil)) ?_
                          rcases oif h with ⟨h300, h⟩ | ⟨h300, h⟩
                          · refine Wc.condT h300 (by kernel_rfl) ?_
                            refine Wc.seq ?_
                            refine Wc.region [] [] [4] [] [] ⟨[(4, (.v (.bool false), []))], [], []⟩ _ (by kernel_rfl) .nil ?_
                            refine Wc.ret ?_
                            obtain rfl := Option.some.inj h
                            exact ⟨.inl rfl, by kernel_rfl, by kernel_rfl⟩
                          · refine Wc.condF h300 (by kernel_rfl) ?_
                            refine Wc.fix (st' := ⟨[(10, (.ptr 10 0, [])), (13, (.v (.int .i64 l281_.2), []))], [(10, .cells [.int .i64 i272_.1.gKind, .str i272_.1.gName, .int .i64 i272_.1.gNum, .slx] [(3, .ex 1000000007 true (List.map GTerm.c l281_.1.gKids))])], []⟩) [] [10, 13] [10] [] (by kernel_rfl) ?_
                            refine Wc.skip ?_
                            refine Wc.seq ?_
                            refine Wc.region [] [] [10, 13, 14] [10] [] ⟨[(10, (.ptr 10 0, [])), (13, (.v (.int .i64 l281_.2), [])), (14, (.v (.int .i64 1), []))], [(10, .cells [.int .i64 i272_.1.gKind, .str i272_.1.gName, .int .i64 i272_.1.gNum, .slx] [(3, .ex 1000000007 true (List.map GTerm.c l281_.1.gKids))])], []⟩ _ (by kernel_rfl) .nil ?_
                            refine Wc.seq ?_
                            obtain ⟨b287_, h301, h⟩ := obind h
                            refine Wc.region [{}, {}, { r := some (.v (.int .i64 b287_) []) }] [] [13, 14] [] [] ⟨[(13, (.v (.int .i64 l281_.2), [])), (14, (.v (.int .i64 b287_), []))], [], []⟩ _ (by kernel_rfl) (.cons (claws_heldTerm h301) .nil) ?_
                            refine Wc.seq ?_
                            refine Wc.seq ?_
                            refine Wc.region [] [] [13, 14, 115] [] [] ⟨[(13, (.v (.int .i64 l281_.2), [])), (14, (.v (.int .i64 b287_), [])), (115, (.v (.bool (decide (b287_ < 0))), []))], [], []⟩ _ (by kernel_rfl) .nil ?_
                            rcases oif h with ⟨h302, h⟩ | ⟨h302, h⟩
                            · refine Wc.condT h302 (by kernel_rfl) ?_
                              refine Wc.seq ?_
                              refine Wc.region [] [] [4] [] [] ⟨[(4, (.v (.bool false), []))], [], []⟩ _ (by kernel_rfl) .nil ?_
                              refine Wc.ret ?_
                              obtain rfl := Option.some.inj h
                              exact ⟨.inl rfl, by kernel_rfl, by kernel_rfl⟩
                            · refine Wc.condF h302 (by kernel_rfl) ?_
                              refine Wc.fix (st' := ⟨[(13, (.v (.int .i64 l281_.2), [])), (14, (.v (.int .i64 b287_), []))], [], []⟩) [] [13, 14] [] [] (by kernel_rfl) ?_
                              refine Wc.skip ?_
                              refine Wc.seq ?_
                              refine Wc.seq ?_
                              refine Wc.region [] [] [118] [] [] ⟨[(118, (.v (.bool (b287_ != l281_.2)), []))], [], []⟩ _ (by kernel_rfl) .nil ?_
                              rcases oif h with ⟨h303, h⟩ | ⟨h303, h⟩
                              · refine Wc.condT h303 (by kernel_rfl) ?_
                                refine Wc.seq ?_
                                refine Wc.region [] [] [4] [] [] ⟨[(4, (.v (.bool false), []))], [], []⟩ _ (by kernel_rfl) .nil ?_
                                refine Wc.ret ?_
                                obtain rfl := Option.some.inj h
                                exact ⟨.inl rfl, by kernel_rfl, by kernel_rfl⟩
                              · refine Wc.condF h303 (by kernel_rfl) ?_
                                refine Wc.fix (st' := ⟨[], [], []⟩) [] [] [] [] (by kernel_rfl) ?_
                                refine Wc.skip ?_
                                refine Wc.seq ?_
                                refine Wc.region [] [] [4] [] [] ⟨[(4, (.v (.bool true), []))], [], []⟩ _ (by kernel_rfl) .nil ?_
                                refine Wc.ret ?_
                                obtain rfl := Option.some.inj h
                                exact ⟨.inl rfl, by kernel_rfl, by kernel_rfl⟩
end Go.Proofs.Ytbfkmgenokhkgaa

/- What the functions do, part 1. -/
import Derived.Test.YtjgagbajgdmocaaTy
set_option linter.unusedVariables false
set_option linter.unusedSimpArgs false
namespace Go.Proofs.Ytjgagbajgdmocaa
open Go.RowKit Go.Bv
def plaws_eqTermS_L1 (k : Nat) (rlaws_eqTerm : GTerm → GTerm → Option Bool) (rlaws_eqTermS : (List GTerm) → (List GTerm) → Option Bool) (a4_ : List GTerm) (a5_ : List GTerm) : Nat → Int → Option (Out Bool Unit)
  | 0, _ => none
  | m + 1, b6_ =>
    if (decide (b6_ < (a4_.length : Int))) = true then
      (at' a4_ b6_).bind fun c7_ =>
      (at' a5_ b6_).bind fun c8_ =>
      (rlaws_eqTerm c7_ c8_).bind fun d9_ =>
      if (!d9_) = true then
        some (.ret false)
      else
        plaws_eqTermS_L1 k rlaws_eqTerm rlaws_eqTermS a4_ a5_ m (wr.i64 (b6_ + 1))
    else
      some (.done ())
mutual
/-- laws.eqTerm -/
def plaws_eqTerm : Nat → GTerm → GTerm → Option Bool
  | 0, _, _ => none
  | k + 1, c1_, c2_ =>
    if (c1_.gKind != c2_.gKind) = true then
      some false
    else
      if (!(sEq c1_.gName c2_.gName)) = true then
        some false
      else
        if (c1_.gNum != c2_.gNum) = true then
          some false
        else
          (plaws_eqTermS k c1_.gKids c2_.gKids).bind fun d3_ =>
          if (!d3_) = true then
            some false
          else
            some true
/-- laws.eqTermS -/
def plaws_eqTermS : Nat → (List GTerm) → (List GTerm) → Option Bool
  | 0, _, _ => none
  | k + 1, a4_, a5_ =>
    if ((a4_.length : Int) != (a5_.length : Int)) = true then
      some false
    else
      (plaws_eqTermS_L1 k (plaws_eqTerm k) (plaws_eqTermS k) a4_ a5_ k 0).bind fun out1 => match out1 with
      | .ret r => some r
      | .done () =>
        some true
end
theorem all_plaws_eqTerm : ∀ k : Nat, (∀ {c1_ : GTerm} {c2_ : GTerm} {r : Bool}, plaws_eqTerm k c1_ c2_ = some r → FnO Try.prog 18 [.v (.agg [.int .i64 c1_.gKind, .str c1_.gName, .int .i64 c1_.gNum, .sl (List.map GTerm.c c1_.gKids)]) [], .v (.agg [.int .i64 c2_.gKind, .str c2_.gName, .int .i64 c2_.gNum, .sl (List.map GTerm.c c2_.gKids)]) []] (.v (.bool r) []) []) ∧
    (∀ {a4_ : List GTerm} {a5_ : List GTerm} {r : Bool}, plaws_eqTermS k a4_ a5_ = some r → FnO Try.prog 37 [.v (.sl (List.map GTerm.c a4_)) [], .v (.sl (List.map GTerm.c a5_)) []] (.v (.bool r) []) []) := by
  intro k
  induction k with
  | zero =>
    refine ⟨?_, ?_⟩
    · intro c1_ c2_ r h
      exact (onone (by rw [plaws_eqTerm] at h; exact h)).elim
    · intro a4_ a5_ r h
      exact (onone (by rw [plaws_eqTermS] at h; exact h)).elim
  | succ k ih =>
    obtain ⟨ih_plaws_eqTerm, ih_plaws_eqTermS⟩ := ih
    refine ⟨?_, ?_⟩
    · intro c1_ c2_ r h
      rw [plaws_eqTerm] at h
      refine FnO.of Try.func18 (rfl : Try.f18.body = some _) (Nat.le_of_ble_eq_true (by kernel_rfl)) (Nat.le_of_ble_eq_true (by kernel_rfl)) ?_
      intro w0 X0 Fin pv0 pb
      refine Wc.seq ?_
      refine Wc.region [] [] [2, 3] [2, 3] [] ⟨[(2, (.ptr 2 0, [])), (3, (.ptr 3 0, []))], [(2, .cells [.int .i64 c1_.gKind, .str c1_.gName, .int .i64 c1_.gNum, .sl (List.map GTerm.c c1_.gKids)] []), (3, .cells [.int .i64 c2_.gKind, .str c2_.gName, .int .i64 c2_.gNum, .sl (List.map GTerm.c c2_.gKids)] [])], []⟩ _ (by kernel_rfl) .nil ?_
      refine Wc.seq ?_
      refine Wc.seq ?_
      refine Wc.region [] [] [2, 3, 9] [2, 3] [] ⟨[(2, (.ptr 2 0, [])), (3, (.ptr 3 0, [])), (9, (.v (.bool (c1_.gKind != c2_.gKind)), []))], [(2, .cells [.int .i64 c1_.gKind, .str c1_.gName, .int .i64 c1_.gNum, .sl (List.map GTerm.c c1_.gKids)] []), (3, .cells [.int .i64 c2_.gKind, .str c2_.gName, .int .i64 c2_.gNum, .sl (List.map GTerm.c c2_.gKids)] [])], []⟩ _ (by kernel_rfl) .nil ?_
      rcases oif h with ⟨h1, h⟩ | ⟨h1, h⟩
      · refine Wc.condT h1 (by kernel_rfl) ?_
        refine Wc.seq ?_
        refine Wc.region [] [] [4] [] [] ⟨[(4, (.v (.bool false), []))], [], []⟩ _ (by kernel_rfl) .nil ?_
        refine Wc.ret ?_
        obtain rfl := Option.some.inj h
        exact ⟨.inl rfl, by kernel_rfl, by kernel_rfl⟩
      · refine Wc.condF h1 (by kernel_rfl) ?_
        refine Wc.fix (st' := ⟨[(2, (.ptr 2 0, [])), (3, (.ptr 3 0, []))], [(2, .cells [.int .i64 c1_.gKind, .str c1_.gName, .int .i64 c1_.gNum, .sl (List.map GTerm.c c1_.gKids)] []), (3, .cells [.int .i64 c2_.gKind, .str c2_.gName, .int .i64 c2_.gNum, .sl (List.map GTerm.c c2_.gKids)] [])], []⟩) [] [2, 3] [2, 3] [] (by kernel_rfl) ?_
        refine Wc.skip ?_
        refine Wc.seq ?_
        refine Wc.seq ?_
        refine Wc.region [] [] [2, 3, 14] [2, 3] [] ⟨[(2, (.ptr 2 0, [])), (3, (.ptr 3 0, [])), (14, (.v (.bool (!(sEq c1_.gName c2_.gName))), []))], [(2, .cells [.int .i64 c1_.gKind, .str c1_.gName, .int .i64 c1_.gNum, .sl (List.map GTerm.c c1_.gKids)] []), (3, .cells [.int .i64 c2_.gKind, .str c2_.gName, .int .i64 c2_.gNum, .sl (List.map GTerm.c c2_.gKids)] [])], []⟩ _ (by kernel_rfl) .nil ?_
        rcases oif h with ⟨h2, h⟩ | ⟨h2, h⟩
        · refine Wc.condT h2 (by kernel_rfl) ?_
          refine Wc.seq ?_
          refine Wc.region [] [] [4] [] [] ⟨[(4, (.v (.bool false), []))], [], []⟩ _ (by kernel_rfl) .nil ?_
          refine Wc.ret ?_
          obtain rfl := Option.some.inj h
          exact ⟨.inl rfl, by kernel_rfl, by kernel_rfl⟩
        · refine Wc.condF h2 (by kernel_rfl) ?_
          refine Wc.fix (st' := ⟨[(2, (.ptr 2 0, [])), (3, (.ptr 3 0, []))], [(2, .cells [.int .i64 c1_.gKind, .str c1_.gName, .int .i64 c1_.gNum, .sl (List.map GTerm.c c1_.gKids)] []), (3, .cells [.int .i64 c2_.gKind, .str c2_.gName, .int .i64 c2_.gNum, .sl (List.map GTerm.c c2_.gKids)] [])], []⟩) [] [2, 3] [2, 3] [] (by kernel_rfl) ?_
          refine Wc.skip ?_
          refine Wc.seq ?_
          refine Wc.seq ?_
          refine Wc.region [] [] [2, 3, 19] [2, 3] [] ⟨[(2, (.ptr 2 0, [])), (3, (.ptr 3 0, [])), (19, (.v (.bool (c1_.gNum != c2_.gNum)), []))], [(2, .cells [.int .i64 c1_.gKind, .str c1_.gName, .int .i64 c1_.gNum, .sl (List.map GTerm.c c1_.gKids)] []), (3, .cells [.int .i64 c2_.gKind, .str c2_.gName, .int .i64 c2_.gNum, .sl (List.map GTerm.c c2_.gKids)] [])], []⟩ _ (by kernel_rfl) .nil ?_
          rcases oif h with ⟨h3, h⟩ | ⟨h3, h⟩
          · refine Wc.condT h3 (by kernel_rfl) ?_
            refine Wc.seq ?_
            refine Wc.region [] [] [4] [] [] ⟨[(4, (.v (.bool false), []))], [], []⟩ _ (by kernel_rfl) .nil ?_
            refine Wc.ret ?_
            obtain rfl := Option.some.inj h
            exact ⟨.inl rfl, by kernel_rfl, by kernel_rfl⟩
          · refine Wc.condF h3 (by kernel_rfl) ?_
            refine Wc.fix (st' := ⟨[(2, (.ptr 2 0, [])), (3, (.ptr 3 0, []))], [(2, .cells [.int .i64 c1_.gKind, .str c1_.gName, .int .i64 c1_.gNum, .sl (List.map GTerm.c c1_.gKids)] []), (3, .cells [.int .i64 c2_.gKind, .str c2_.gName, .int .i64 c2_.gNum, .sl (List.map GTerm.c c2_.gKids)] [])], []⟩) [] [2, 3] [2, 3] [] (by kernel_rfl) ?_
            refine Wc.skip ?_
            refine Wc.seq ?_
            refine Wc.seq ?_
            obtain ⟨d3_, h4, h⟩ := obind h
            refine Wc.region [{}, {}, {}, {}, { r := some (.v (.bool d3_) []) }] [] [25] [] [] ⟨[(25, (.v (.bool (!d3_)), []))], [], []⟩ _ (by kernel_rfl) (.cons (ih_plaws_eqTermS h4) .nil) ?_
            rcases oif h with ⟨h5, h⟩ | ⟨h5, h⟩
            · refine Wc.condT h5 (by kernel_rfl) ?_
              refine Wc.seq ?_
              refine Wc.region [] [] [4] [] [] ⟨[(4, (.v (.bool false), []))], [], []⟩ _ (by kernel_rfl) .nil ?_
              refine Wc.ret ?_
              obtain rfl := Option.some.inj h
              exact ⟨.inl rfl, by kernel_rfl, by kernel_rfl⟩
            · refine Wc.condF h5 (by kernel_rfl) ?_
              refine Wc.fix (st' := ⟨[], [], []⟩) [] [] [] [] (by kernel_rfl) ?_
              refine Wc.skip ?_
              refine Wc.seq ?_
              refine Wc.region [] [] [4] [] [] ⟨[(4, (.v (.bool true), []))], [], []⟩ _ (by kernel_rfl) .nil ?_
              refine Wc.ret ?_
              obtain rfl := Option.some.inj h
              exact ⟨.inl rfl, by kernel_rfl, by kernel_rfl⟩
    · intro a4_ a5_ r h
      rw [plaws_eqTermS] at h
      refine FnO.of Try.func37 (rfl : Try.f37.body = some _) (Nat.le_of_ble_eq_true (by kernel_rfl)) (Nat.le_of_ble_eq_true (by kernel_rfl)) ?_
      intro w0 X0 Fin pv0 pb
      refine Wc.seq ?_
      refine Wc.region [] [] [0, 1] [] [] ⟨[(0, (.v (.sl (List.map GTerm.c a4_)), [])), (1, (.v (.sl (List.map GTerm.c a5_)), []))], [], []⟩ _ (by kernel_rfl) .nil ?_
      refine Wc.seq ?_
      refine Wc.seq ?_
      refine Wc.region [{}, { v := some (.int .i64 (a4_.length : Int)) }, {}, { v := some (.int .i64 (a5_.length : Int)) }] [] [0, 1, 10] [] [] ⟨[(0, (.v (.sl (List.map GTerm.c a4_)), [])), (1, (.v (.sl (List.map GTerm.c a5_)), [])), (10, (.v (.bool ((a4_.length : Int) != (a5_.length : Int))), []))], [], []⟩ _ (by kernel_rfl) (.cons (len_obl GTerm.c a4_) (.cons (len_obl GTerm.c a5_) .nil)) ?_
      rcases oif h with ⟨h6, h⟩ | ⟨h6, h⟩
      · refine Wc.condT h6 (by kernel_rfl) ?_
        refine Wc.seq ?_
        refine Wc.region [] [] [4] [] [] ⟨[(4, (.v (.bool false), []))], [], []⟩ _ (by kernel_rfl) .nil ?_
        refine Wc.ret ?_
        obtain rfl := Option.some.inj h
        exact ⟨.inl rfl, by kernel_rfl, by kernel_rfl⟩
      · refine Wc.condF h6 (by kernel_rfl) ?_
        refine Wc.fix (st' := ⟨[(0, (.v (.sl (List.map GTerm.c a4_)), [])), (1, (.v (.sl (List.map GTerm.c a5_)), []))], [], []⟩) [] [0, 1] [] [] (by kernel_rfl) ?_
        refine Wc.skip ?_
        refine Wc.seq ?_
        refine Wc.seq ?_
        refine Wc.region [] [] [0, 1, 5] [] [] ⟨[(0, (.v (.sl (List.map GTerm.c a4_)), [])), (1, (.v (.sl (List.map GTerm.c a5_)), [])), (5, (.v (.int .i64 0), []))], [], []⟩ _ (by kernel_rfl) .nil ?_
        obtain ⟨out1, h7, h⟩ := obind h
        refine Wc.lastJ (fun st => out1 = .done () ∧ st = ⟨[], [], []⟩) ?_ ?_
        · refine Wc.block ?_
          refine Wc.loop (fun m st => ∃ (b6_ : Int), st = ⟨[(0, (.v (.sl (List.map GTerm.c a4_)), [])), (1, (.v (.sl (List.map GTerm.c a5_)), [])), (5, (.v (.int .i64 b6_), []))], [], []⟩ ∧ plaws_eqTermS_L1 k (plaws_eqTerm k) (plaws_eqTermS k) a4_ a5_ m b6_ = some out1) ?_ k ⟨_, rfl, h7⟩
          rintro m st ⟨b6_, rfl, h7⟩
          cases m with
          | zero => exact (onone h7).elim
          | succ m =>
            refine Wc.seq ?_
            refine Wc.seq ?_
            refine Wc.region [{}, {}, { v := some (.int .i64 (a4_.length : Int)) }] [] [0, 1, 5, 14] [] [] ⟨[(0, (.v (.sl (List.map GTerm.c a4_)), [])), (1, (.v (.sl (List.map GTerm.c a5_)), [])), (5, (.v (.int .i64 b6_), [])), (14, (.v (.bool (decide (b6_ < (a4_.length : Int)))), []))], [], []⟩ _ (by kernel_rfl) (.cons (len_obl GTerm.c a4_) .nil) ?_
            rcases oif h7 with ⟨h8, h7⟩ | ⟨h8, h7⟩
            · refine Wc.condT h8 (by kernel_rfl) ?_
              refine Wc.fix (st' := ⟨[(0, (.v (.sl (List.map GTerm.c a4_)), [])), (1, (.v (.sl (List.map GTerm.c a5_)), [])), (5, (.v (.int .i64 b6_), []))], [], []⟩) [] [0, 1, 5] [] [] (by kernel_rfl) ?_
              refine Wc.skip ?_
              refine Wc.seq ?_
              refine Wc.block ?_
              refine Wc.seq ?_
              obtain ⟨c7_, h9, h7⟩ := obind h7
              obtain ⟨c8_, h10, h7⟩ := obind h7
              obtain ⟨d9_, h11, h7⟩ := obind h7
              refine Wc.draw hmix [{}, {}, { v := some (.vptr [.int .i64 c7_.gKind, .str c7_.gName, .int .i64 c7_.gNum, .sl (List.map GTerm.c c7_.gKids)]) }, {}, {}, {}, { v := some (.vptr [.int .i64 c8_.gKind, .str c8_.gName, .int .i64 c8_.gNum, .sl (List.map GTerm.c c8_.gKids)]) }, {}, { r := some (.v (.bool d9_) []) }] [] [0, 1, 5, 26] [] [] ⟨[(0, (.v (.sl (List.map GTerm.c a4_)), [])), (1, (.v (.sl (List.map GTerm.c a5_)), [])), (5, (.v (.int .i64 b6_), [])), (26, (.v (.bool (!d9_)), []))], [], []⟩ _ (by kernel_rfl) (fun X => by kernel_rfl) (.cons (at_obl (c := GTerm.c) (GTerm.c_eq c7_) GTerm.c_len h9) (.cons (len_ok 4 [.int .i64 c7_.gKind, .str c7_.gName, .int .i64 c7_.gNum, .sl (List.map GTerm.c c7_.gKids)]) (.cons (at_obl (c := GTerm.c) (GTerm.c_eq c8_) GTerm.c_len h10) (.cons (len_ok 4 [.int .i64 c8_.gKind, .str c8_.gName, .int .i64 c8_.gNum, .sl (List.map GTerm.c c8_.gKids)]) (.cons (ih_plaws_eqTerm h11) .nil))))) ?_
              rcases oif h7 with ⟨h12, h7⟩ | ⟨h12, h7⟩
              · refine Wc.condT h12 (by kernel_rfl) ?_
                refine Wc.seq ?_
                refine Wc.region [] [] [4] [] [] ⟨[(4, (.v (.bool false), []))], [], []⟩ _ (by kernel_rfl) .nil ?_
                refine Wc.ret ?_
                obtain rfl := Option.some.inj h7
                obtain rfl := Option.some.inj h
                exact ⟨.inl rfl, by kernel_rfl, by kernel_rfl⟩
              · refine Wc.condF h12 (by kernel_rfl) ?_
                refine Wc.fix (st' := ⟨[(0, (.v (.sl (List.map GTerm.c a4_)), [])), (1, (.v (.sl (List.map GTerm.c a5_)), [])), (5, (.v (.int .i64 b6_), []))], [], []⟩) [] [0, 1, 5] [] [] (by kernel_rfl) ?_
                refine Wc.skip ?_
                refine Wc.region [] [] [0, 1, 5] [] [] ⟨[(0, (.v (.sl (List.map GTerm.c a4_)), [])), (1, (.v (.sl (List.map GTerm.c a5_)), [])), (5, (.v (.int .i64 (wr.i64 (b6_ + 1))), []))], [], []⟩ _ (by kernel_rfl) .nil ?_
                exact ⟨_, Nat.lt_succ_self _, _, rfl, h7⟩
            · refine Wc.condF h8 (by kernel_rfl) ?_
              refine Wc.fix (st' := ⟨[], [], []⟩) [] [] [] [] (by kernel_rfl) ?_
              refine Wc.exit ?_
              obtain rfl := Option.some.inj h7
              exact ⟨rfl, rfl⟩
        · rintro st ⟨rfl, rfl⟩
          refine Wc.seq ?_
          refine Wc.region [] [] [4] [] [] ⟨[(4, (.v (.bool true), []))], [], []⟩ _ (by kernel_rfl) .nil ?_
          refine Wc.ret ?_
          obtain rfl := Option.some.inj h
          exact ⟨.inl rfl, by kernel_rfl, by kernel_rfl⟩
theorem claws_eqTerm {k : Nat} {c1_ : GTerm} {c2_ : GTerm} {r : Bool} (h : plaws_eqTerm k c1_ c2_ = some r) : FnO Try.prog 18 [.v (.agg [.int .i64 c1_.gKind, .str c1_.gName, .int .i64 c1_.gNum, .sl (List.map GTerm.c c1_.gKids)]) [], .v (.agg [.int .i64 c2_.gKind, .str c2_.gName, .int .i64 c2_.gNum, .sl (List.map GTerm.c c2_.gKids)]) []] (.v (.bool r) []) [] := (all_plaws_eqTerm k).1 h
theorem claws_eqTermS {k : Nat} {a4_ : List GTerm} {a5_ : List GTerm} {r : Bool} (h : plaws_eqTermS k a4_ a5_ = some r) : FnO Try.prog 37 [.v (.sl (List.map GTerm.c a4_)) [], .v (.sl (List.map GTerm.c a5_)) []] (.v (.bool r) []) [] := (all_plaws_eqTerm k).2 h

def plaws_markText_L1 (k : Nat) : Nat → Int → ByteArray → Option (Out ByteArray ByteArray)
  | 0, _, _ => none
  | m + 1, b11_, e12_ =>
    if (decide (b11_ > 0)) = true then
      if (10 : Int) ≠ 0 then
        if sumOk (strOfNums [wr.u8 (wr.i64 (48 + (Int.tmod b11_ 10)))]) e12_ then
          if (10 : Int) ≠ 0 then
            plaws_markText_L1 k m (wr.i64 (Int.tdiv b11_ 10)) ((strOfNums [wr.u8 (wr.i64 (48 + (Int.tmod b11_ 10)))]) ++ e12_)
          else none
        else none
      else none
    else
      some (.done e12_)
/-- laws.markText -/
def plaws_markText (k : Nat) (b10_ : Int) : Option ByteArray :=
  if (decide (b10_ ≤ 0)) = true then
    some (bs [109, 48])
  else
    (plaws_markText_L1 k k b10_ (bs [])).bind fun out1 => match out1 with
    | .ret r => some r
    | .done e13_ =>
      if sumOk (bs [109]) e13_ then
        some ((bs [109]) ++ e13_)
      else none
theorem claws_markText {k : Nat} {b10_ : Int} {r : ByteArray} (h : plaws_markText k b10_ = some r) : FnO Try.prog 80 [.v (.int .i64 b10_) []] (.v (.str r) []) [] := by
  refine FnO.of Try.func80 (rfl : Try.f80.body = some _) (Nat.le_of_ble_eq_true (by kernel_rfl)) (Nat.le_of_ble_eq_true (by kernel_rfl)) ?_
  intro w0 X0 Fin pv0 pb
  unfold plaws_markText at h
  refine Wc.seq ?_
  refine Wc.region [] [] [0] [] [] ⟨[(0, (.v (.int .i64 b10_), []))], [], []⟩ _ (by kernel_rfl) .nil ?_
  refine Wc.seq ?_
  refine Wc.seq ?_
  refine Wc.region [] [] [0, 5] [] [] ⟨[(0, (.v (.int .i64 b10_), [])), (5, (.v (.bool (decide (b10_ ≤ 0))), []))], [], []⟩ _ (by kernel_rfl) .nil ?_
  rcases oif h with ⟨h13, h⟩ | ⟨h13, h⟩
  · refine Wc.condT h13 (by kernel_rfl) ?_
    refine Wc.seq ?_
    refine Wc.region [] [] [2] [] [] ⟨[(2, (.v (.str (bs [109, 48])), []))], [], []⟩ _ (by kernel_rfl) .nil ?_
    refine Wc.ret ?_
    obtain rfl := Option.some.inj h
    exact ⟨.inl rfl, by kernel_rfl, by kernel_rfl⟩
  · refine Wc.condF h13 (by kernel_rfl) ?_
    refine Wc.fix (st' := ⟨[(0, (.v (.int .i64 b10_), []))], [], []⟩) [] [0] [] [] (by kernel_rfl) ?_
    refine Wc.skip ?_
    refine Wc.seq ?_
    refine Wc.region [] [] [0, 3] [] [] ⟨[(0, (.v (.int .i64 b10_), [])), (3, (.v (.str (bs [])), []))], [], []⟩ _ (by kernel_rfl) .nil ?_
    obtain ⟨out1, h14, h⟩ := obind h
    refine Wc.seqJ (fun st => ∃ (e13_ : ByteArray), out1 = .done e13_ ∧ st = ⟨[(3, (.v (.str e13_), []))], [], []⟩) ?_ ?_
    · refine Wc.block ?_
      refine Wc.loop (fun m st => ∃ (b11_ : Int) (e12_ : ByteArray), st = ⟨[(0, (.v (.int .i64 b11_), [])), (3, (.v (.str e12_), []))], [], []⟩ ∧ plaws_markText_L1 k m b11_ e12_ = some out1) ?_ k ⟨_, _, rfl, h14⟩
      rintro m st ⟨b11_, e12_, rfl, h14⟩
      cases m with
      | zero => exact (onone h14).elim
      | succ m =>
        refine Wc.seq ?_
        refine Wc.seq ?_
        refine Wc.region [] [] [0, 3, 7] [] [] ⟨[(0, (.v (.int .i64 b11_), [])), (3, (.v (.str e12_), [])), (7, (.v (.bool (decide (b11_ > 0))), []))], [], []⟩ _ (by kernel_rfl) .nil ?_
        rcases oif h14 with ⟨h15, h14⟩ | ⟨h15, h14⟩
        · refine Wc.condT h15 (by kernel_rfl) ?_
          refine Wc.fix (st' := ⟨[(0, (.v (.int .i64 b11_), [])), (3, (.v (.str e12_), []))], [], []⟩) [] [0, 3] [] [] (by kernel_rfl) ?_
          refine Wc.skip ?_
          refine Wc.block ?_
          refine Wc.seq ?_
          obtain ⟨h16, h14⟩ := oguard h14
          obtain ⟨h17, h14⟩ := oguard h14
          refine Wc.region [{}, {}, {}, {}, { c := some (List.map cI.u8 [wr.u8 (wr.i64 (48 + (Int.tmod b11_ 10)))]) }, { v := some (.str (strOfNums [wr.u8 (wr.i64 (48 + (Int.tmod b11_ 10)))])) }] [] [0, 3] [] [] ⟨[(0, (.v (.int .i64 b11_), [])), (3, (.v (.str ((strOfNums [wr.u8 (wr.i64 (48 + (Int.tmod b11_ 10)))]) ++ e12_)), []))], [], []⟩ _ (by kernel_rfl) (.cons h16 (.cons (cl_cons (c := cI.u8) (x := wr.u8 (wr.i64 (48 + (Int.tmod b11_ 10)))) rfl (cl_nil cI.u8)) (.cons (bytes_obl [wr.u8 (wr.i64 (48 + (Int.tmod b11_ 10)))]) (.cons h17 .nil)))) ?_
          obtain ⟨h18, h14⟩ := oguard h14
          refine Wc.region [] [] [0, 3] [] [] ⟨[(0, (.v (.int .i64 (wr.i64 (Int.tdiv b11_ 10))), [])), (3, (.v (.str ((strOfNums [wr.u8 (wr.i64 (48 + (Int.tmod b11_ 10)))]) ++ e12_)), []))], [], []⟩ _ (by kernel_rfl) (.cons h18 .nil) ?_
          exact ⟨_, Nat.lt_succ_self _, _, _, rfl, h14⟩
        · refine Wc.condF h15 (by kernel_rfl) ?_
          refine Wc.fix (st' := ⟨[(3, (.v (.str e12_), []))], [], []⟩) [] [3] [] [] (by kernel_rfl) ?_
          refine Wc.exit ?_
          obtain rfl := Option.some.inj h14
          exact ⟨_, rfl, rfl⟩
    · rintro st ⟨e13_, rfl, rfl⟩
      refine Wc.seq ?_
      obtain ⟨h19, h⟩ := oguard h
      refine Wc.region [] [] [2] [] [] ⟨[(2, (.v (.str ((bs [109]) ++ e13_)), []))], [], []⟩ _ (by kernel_rfl) (.cons h19 .nil) ?_
      refine Wc.ret ?_
      obtain rfl := Option.some.inj h
      exact ⟨.inl rfl, by kernel_rfl, by kernel_rfl⟩

def plaws_markTermS_L1 (k : Nat) (rlaws_markTermS : (List GTerm) → Int → Option ((List GTerm) × Int)) : Nat → Int → Int → (List GTerm) → Option (Out ((List GTerm) × Int) (Int × (List GTerm)))
  | 0, _, _, _ => none
  | m + 1, b16_, b17_, a18_ =>
    if (decide (b17_ < (a18_.length : Int))) = true then
      (at' a18_ b17_).bind fun c21_ =>
      (plaws_markText k (wr.i64 (b16_ + 1))).bind fun e22_ =>
      (at' (a18_.set ((b17_).toNat) (GTerm.mk b16_ c21_.gName c21_.gNum c21_.gKids)) b17_).bind fun c23_ =>
      (at' ((a18_.set ((b17_).toNat) (GTerm.mk b16_ c21_.gName c21_.gNum c21_.gKids)).set ((b17_).toNat) (GTerm.mk c23_.gKind e22_ c23_.gNum c23_.gKids)) b17_).bind fun c24_ =>
      (at' (((a18_.set ((b17_).toNat) (GTerm.mk b16_ c21_.gName c21_.gNum c21_.gKids)).set ((b17_).toNat) (GTerm.mk c23_.gKind e22_ c23_.gNum c23_.gKids)).set ((b17_).toNat) (GTerm.mk c24_.gKind c24_.gName (wr.i64 ((wr.i64 (b16_ + 1)) + 1)) c24_.gKids)) b17_).bind fun c25_ =>
      (rlaws_markTermS c25_.gKids (wr.i64 ((wr.i64 ((wr.i64 (b16_ + 1)) + 1)) + 1))).bind fun f26_ =>
      plaws_markTermS_L1 k rlaws_markTermS m f26_.2 (wr.i64 (b17_ + 1)) ((((a18_.set ((b17_).toNat) (GTerm.mk b16_ c21_.gName c21_.gNum c21_.gKids)).set ((b17_).toNat) (GTerm.mk c23_.gKind e22_ c23_.gNum c23_.gKids)).set ((b17_).toNat) (GTerm.mk c24_.gKind c24_.gName (wr.i64 ((wr.i64 (b16_ + 1)) + 1)) c24_.gKids)).set ((b17_).toNat) (GTerm.mk c25_.gKind c25_.gName c25_.gNum f26_.1))
    else
      some (.done (b16_, a18_))
mutual
/-- laws.markTermS -/
def plaws_markTermS : Nat → (List GTerm) → Int → Option ((List GTerm) × Int)
  | 0, _, _ => none
  | k + 1, a14_, b15_ =>
    (plaws_markTermS_L1 k (plaws_markTermS k) k b15_ 0 a14_).bind fun out1 => match out1 with
    | .ret r => some r
    | .done (b19_, a20_) =>
      some (a20_, b19_)
end
theorem all_plaws_markTermS : ∀ k : Nat, (∀ {a14_ : List GTerm} {b15_ : Int} {r : (List GTerm) × Int}, plaws_markTermS k a14_ b15_ = some r → FnO Try.prog 38 [.io (.slx) [(0, .ex 1000000007 true (List.map GTerm.c a14_))], .v (.int .i64 b15_) []] (.v (.int .i64 r.2) []) [(0, .v .undef [(0, .ex 1000000007 true (List.map GTerm.c r.1))])]) := by
  intro k
  induction k with
  | zero =>
    · intro a14_ b15_ r h
      exact (onone (by rw [plaws_markTermS] at h; exact h)).elim
  | succ k ih =>
    have ih_plaws_markTermS := @ih
    · intro a14_ b15_ r h
      rw [plaws_markTermS] at h
      refine FnO.of Try.func38 (rfl : Try.f38.body = some _) (Nat.le_of_ble_eq_true (by kernel_rfl)) (Nat.le_of_ble_eq_true (by kernel_rfl)) ?_
      intro w0 X0 Fin pv0 pb
      refine Wc.seq ?_
      refine Wc.region [] [] [0, 1] [] [0] ⟨[(0, (.v (.slx), [(0, .al (.a 0 0) [])])), (1, (.v (.int .i64 b15_), []))], [], [(0, [(0, .ex 1000000007 true (List.map GTerm.c a14_))])]⟩ _ (by kernel_rfl) .nil ?_
      refine Wc.seq ?_
      refine Wc.seq ?_
      refine Wc.region [] [] [0, 1, 5] [] [0] ⟨[(0, (.v (.slx), [(0, .al (.a 0 0) [])])), (1, (.v (.int .i64 b15_), [])), (5, (.v (.int .i64 0), []))], [], [(0, [(0, .ex 1000000007 true (List.map GTerm.c a14_))])]⟩ _ (by kernel_rfl) .nil ?_
      obtain ⟨out1, h20, h⟩ := obind h
      refine Wc.lastJ (fun st => ∃ (b19_ : Int) (a20_ : List GTerm), out1 = .done (b19_, a20_) ∧ st = ⟨[(1, (.v (.int .i64 b19_), []))], [], [(0, [(0, .ex 1000000007 true (List.map GTerm.c a20_))])]⟩) ?_ ?_
      · refine Wc.block ?_
        refine Wc.loop (fun m st => ∃ (b16_ : Int) (b17_ : Int) (a18_ : List GTerm), st = ⟨[(0, (.v (.slx), [(0, .al (.a 0 0) [])])), (1, (.v (.int .i64 b16_), [])), (5, (.v (.int .i64 b17_), []))], [], [(0, [(0, .ex 1000000007 true (List.map GTerm.c a18_))])]⟩ ∧ plaws_markTermS_L1 k (plaws_markTermS k) m b16_ b17_ a18_ = some out1) ?_ k ⟨_, _, _, rfl, h20⟩
        rintro m st ⟨b16_, b17_, a18_, rfl, h20⟩
        cases m with
        | zero => exact (onone h20).elim
        | succ m =>
          refine Wc.seq ?_
          refine Wc.seq ?_
          refine Wc.region [{}, {}, { v := some (.int .i64 (a18_.length : Int)) }] [] [0, 1, 5, 9] [] [0] ⟨[(0, (.v (.slx), [(0, .al (.a 0 0) [])])), (1, (.v (.int .i64 b16_), [])), (5, (.v (.int .i64 b17_), [])), (9, (.v (.bool (decide (b17_ < (a18_.length : Int)))), []))], [], [(0, [(0, .ex 1000000007 true (List.map GTerm.c a18_))])]⟩ _ (by kernel_rfl) (.cons (len_obl GTerm.c a18_) .nil) ?_
          rcases oif h20 with ⟨h21, h20⟩ | ⟨h21, h20⟩
          · refine Wc.condT h21 (by kernel_rfl) ?_
            refine Wc.fix (st' := ⟨[(0, (.v (.slx), [(0, .al (.a 0 0) [])])), (1, (.v (.int .i64 b16_), [])), (5, (.v (.int .i64 b17_), []))], [], [(0, [(0, .ex 1000000007 true (List.map GTerm.c a18_))])]⟩) [] [0, 1, 5] [] [0] (by kernel_rfl) ?_
            refine Wc.skip ?_
            refine Wc.seq ?_
            refine Wc.block ?_
            refine Wc.seq ?_
            obtain ⟨c21_, h22, h20⟩ := obind h20
            refine Wc.region [{}, {}, {}, {}, {}, { c := some (List.map GTerm.c (a18_.set ((b17_).toNat) (GTerm.mk b16_ c21_.gName c21_.gNum c21_.gKids))) }] [] [0, 1, 5] [] [0] ⟨[(0, (.v (.slx), [(0, .al (.a 0 0) [])])), (1, (.v (.int .i64 b16_), [])), (5, (.v (.int .i64 b17_), []))], [], [(0, [(0, .ex 1000000007 true (List.map GTerm.c (a18_.set ((b17_).toNat) (GTerm.mk b16_ c21_.gName c21_.gNum c21_.gKids))))])]⟩ _ (by kernel_rfl) (.cons (ix_obl (c := GTerm.c) GTerm.c_len h22) (.cons (mod_obl (off := 0) (new := [.int .i64 b16_]) (c := GTerm.c) (GTerm.c_eq c21_) (GTerm.c_eq (GTerm.mk b16_ c21_.gName c21_.gNum c21_.gKids)) (at'_spec h22).2 rfl) (.cons (st_obl (sz := 4) (off := 0) (s := 1) (c := GTerm.c) (GTerm.c_eq c21_) (at'_spec h22).2 rfl (Nat.le_of_ble_eq_true rfl)) .nil))) ?_
            refine Wc.seq ?_
            refine Wc.region [] [] [0, 1, 5] [] [0] ⟨[(0, (.v (.slx), [(0, .al (.a 0 0) [])])), (1, (.v (.int .i64 (wr.i64 (b16_ + 1))), [])), (5, (.v (.int .i64 b17_), []))], [], [(0, [(0, .ex 1000000007 true (List.map GTerm.c (a18_.set ((b17_).toNat) (GTerm.mk b16_ c21_.gName c21_.gNum c21_.gKids))))])]⟩ _ (by kernel_rfl) .nil ?_
            refine Wc.seq ?_
            obtain ⟨e22_, h23, h20⟩ := obind h20
            obtain ⟨c23_, h24, h20⟩ := obind h20
            refine Wc.region [{}, {}, {}, { r := some (.v (.str e22_) []) }, {}, {}, { c := some (List.map GTerm.c ((a18_.set ((b17_).toNat) (GTerm.mk b16_ c21_.gName c21_.gNum c21_.gKids)).set ((b17_).toNat) (GTerm.mk c23_.gKind e22_ c23_.gNum c23_.gKids))) }] [] [0, 1, 5] [] [0] ⟨[(0, (.v (.slx), [(0, .al (.a 0 0) [])])), (1, (.v (.int .i64 (wr.i64 (b16_ + 1))), [])), (5, (.v (.int .i64 b17_), []))], [], [(0, [(0, .ex 1000000007 true (List.map GTerm.c ((a18_.set ((b17_).toNat) (GTerm.mk b16_ c21_.gName c21_.gNum c21_.gKids)).set ((b17_).toNat) (GTerm.mk c23_.gKind e22_ c23_.gNum c23_.gKids))))])]⟩ _ (by kernel_rfl) (.cons (claws_markText h23) (.cons (ix_obl (c := GTerm.c) GTerm.c_len h24) (.cons (mod_obl (off := 1) (new := [.str e22_]) (c := GTerm.c) (GTerm.c_eq c23_) (GTerm.c_eq (GTerm.mk c23_.gKind e22_ c23_.gNum c23_.gKids)) (at'_spec h24).2 rfl) (.cons (st_obl (sz := 4) (off := 1) (s := 1) (c := GTerm.c) (GTerm.c_eq c23_) (at'_spec h24).2 rfl (Nat.le_of_ble_eq_true rfl)) .nil)))) ?_
            refine Wc.seq ?_
            refine Wc.region [] [] [0, 1, 5] [] [0] ⟨[(0, (.v (.slx), [(0, .al (.a 0 0) [])])), (1, (.v (.int .i64 (wr.i64 ((wr.i64 (b16_ + 1)) + 1))), [])), (5, (.v (.int .i64 b17_), []))], [], [(0, [(0, .ex 1000000007 true (List.map GTerm.c ((a18_.set ((b17_).toNat) (GTerm.mk b16_ c21_.gName c21_.gNum c21_.gKids)).set ((b17_).toNat) (GTerm.mk c23_.gKind e22_ c23_.gNum c23_.gKids))))])]⟩ _ (by kernel_rfl) .nil ?_
            refine Wc.seq ?_
            obtain ⟨c24_, h25, h20⟩ := obind h20
            refine Wc.region [{}, {}, {}, {}, {}, { c := some (List.map GTerm.c (((a18_.set ((b17_).toNat) (GTerm.mk b16_ c21_.gName c21_.gNum c21_.gKids)).set ((b17_).toNat) (GTerm.mk c23_.gKind e22_ c23_.gNum c23_.gKids)).set ((b17_).toNat) (GTerm.mk c24_.gKind c24_.gName (wr.i64 ((wr.i64 (b16_ + 1)) + 1)) c24_.gKids))) }] [] [0, 1, 5] [] [0] ⟨[(0, (.v (.slx), [(0, .al (.a 0 0) [])])), (1, (.v (.int .i64 (wr.i64 ((wr.i64 (b16_ + 1)) + 1))), [])), (5, (.v (.int .i64 b17_), []))], [], [(0, [(0, .ex 1000000007 true (List.map GTerm.c (((a18_.set ((b17_).toNat) (GTerm.mk b16_ c21_.gName c21_.gNum c21_.gKids)).set ((b17_).toNat) (GTerm.mk c23_.gKind e22_ c23_.gNum c23_.gKids)).set ((b17_).toNat) (GTerm.mk c24_.gKind c24_.gName (wr.i64 ((wr.i64 (b16_ + 1)) + 1)) c24_.gKids))))])]⟩ _ (by kernel_rfl) (.cons (ix_obl (c := GTerm.c) GTerm.c_len h25) (.cons (mod_obl (off := 2) (new := [.int .i64 (wr.i64 ((wr.i64 (b16_ + 1)) + 1))]) (c := GTerm.c) (GTerm.c_eq c24_) (GTerm.c_eq (GTerm.mk c24_.gKind c24_.gName (wr.i64 ((wr.i64 (b16_ + 1)) + 1)) c24_.gKids)) (at'_spec h25).2 rfl) (.cons (st_obl (sz := 4) (off := 2) (s := 1) (c := GTerm.c) (GTerm.c_eq c24_) (at'_spec h25).2 rfl (Nat.le_of_ble_eq_true rfl)) .nil))) ?_
            refine Wc.seq ?_
            refine Wc.region [] [] [0, 1, 5] [] [0] ⟨[(0, (.v (.slx), [(0, .al (.a 0 0) [])])), (1, (.v (.int .i64 (wr.i64 ((wr.i64 ((wr.i64 (b16_ + 1)) + 1)) + 1))), [])), (5, (.v (.int .i64 b17_), []))], [], [(0, [(0, .ex 1000000007 true (List.map GTerm.c (((a18_.set ((b17_).toNat) (GTerm.mk b16_ c21_.gName c21_.gNum c21_.gKids)).set ((b17_).toNat) (GTerm.mk c23_.gKind e22_ c23_.gNum c23_.gKids)).set ((b17_).toNat) (GTerm.mk c24_.gKind c24_.gName (wr.i64 ((wr.i64 (b16_ + 1)) + 1)) c24_.gKids))))])]⟩ _ (by kernel_rfl) .nil ?_
            obtain ⟨c25_, h26, h20⟩ := obind h20
            obtain ⟨f26_, h27, h20⟩ := obind h20
            refine Wc.region [{}, {}, {}, {}, { v := some (.slx) }, {}, { c := some (List.map GTerm.c ((((a18_.set ((b17_).toNat) (GTerm.mk b16_ c21_.gName c21_.gNum c21_.gKids)).set ((b17_).toNat) (GTerm.mk c23_.gKind e22_ c23_.gNum c23_.gKids)).set ((b17_).toNat) (GTerm.mk c24_.gKind c24_.gName (wr.i64 ((wr.i64 (b16_ + 1)) + 1)) c24_.gKids)).set ((b17_).toNat) (GTerm.mk c25_.gKind c25_.gName c25_.gNum f26_.1))), io := [0], r := some (.v (.int .i64 f26_.2) []), outs := [(0, .v .undef [(0, .ex 1000000007 true (List.map GTerm.c f26_.1))])], ioc := [(0, .ex 1000000007 true (List.map GTerm.c c25_.gKids))] }] [] [0, 1, 5] [] [0] ⟨[(0, (.v (.slx), [(0, .al (.a 0 0) [])])), (1, (.v (.int .i64 f26_.2), [])), (5, (.v (.int .i64 b17_), []))], [], [(0, [(0, .ex 1000000007 true (List.map GTerm.c ((((a18_.set ((b17_).toNat) (GTerm.mk b16_ c21_.gName c21_.gNum c21_.gKids)).set ((b17_).toNat) (GTerm.mk c23_.gKind e22_ c23_.gNum c23_.gKids)).set ((b17_).toNat) (GTerm.mk c24_.gKind c24_.gName (wr.i64 ((wr.i64 (b16_ + 1)) + 1)) c24_.gKids)).set ((b17_).toNat) (GTerm.mk c25_.gKind c25_.gName c25_.gNum f26_.1))))])]⟩ _ (by kernel_rfl) (.cons (ix_obl (c := GTerm.c) GTerm.c_len h26) (.cons (el_oblD (sz := 4) (off := 3) (s := 1) (ag := false) (v := .slx) (c := GTerm.c) (GTerm.c_eq c25_) (at'_spec h26).2 rfl (Nat.le_of_ble_eq_true rfl) rfl) (.cons (own_obl (own := [(0, .al (.a 0 0) [(((b17_).toNat), 4, 3)])]) (p := .a 0 0) (m := (b17_).toNat) (sz := 4) (off := 3) (js := [0]) rfl) (.cons (seg_obl (sz := 4) (off := 3) (n := [.sl (List.map GTerm.c c25_.gKids)]) (c := GTerm.c) (GTerm.c_eq c25_) (at'_spec h26).2 rfl (Nat.le_of_ble_eq_true rfl) rfl) (.cons (mod_obl (off := 3) (new := [.sl (List.map GTerm.c f26_.1)]) (c := GTerm.c) (GTerm.c_eq c25_) (GTerm.c_eq (GTerm.mk c25_.gKind c25_.gName c25_.gNum f26_.1)) (at'_spec h26).2 rfl) (.cons (FnO.any (args := [.io (.slx) [(0, .ex 1000000007 true (List.map GTerm.c c25_.gKids))], .v (.int .i64 (wr.i64 ((wr.i64 ((wr.i64 (b16_ + 1)) + 1)) + 1))) []]) (ih_plaws_markTermS h27)) .nil)))))) ?_
            refine Wc.region [] [] [0, 1, 5] [] [0] ⟨[(0, (.v (.slx), [(0, .al (.a 0 0) [])])), (1, (.v (.int .i64 f26_.2), [])), (5, (.v (.int .i64 (wr.i64 (b17_ + 1))), []))], [], [(0, [(0, .ex 1000000007 true (List.map GTerm.c ((((a18_.set ((b17_).toNat) (GTerm.mk b16_ c21_.gName c21_.gNum c21_.gKids)).set ((b17_).toNat) (GTerm.mk c23_.gKind e22_ c23_.gNum c23_.gKids)).set ((b17_).toNat) (GTerm.mk c24_.gKind c24_.gName (wr.i64 ((wr.i64 (b16_ + 1)) + 1)) c24_.gKids)).set ((b17_).toNat) (GTerm.mk c25_.gKind c25_.gName c25_.gNum f26_.1))))])]⟩ _ (by kernel_rfl) .nil ?_
            exact ⟨_, Nat.lt_succ_self _, _, _, _, rfl, h20⟩
          · refine Wc.condF h21 (by kernel_rfl) ?_
            refine Wc.fix (st' := ⟨[(1, (.v (.int .i64 b16_), []))], [], [(0, [(0, .ex 1000000007 true (List.map GTerm.c a18_))])]⟩) [] [1] [] [0] (by kernel_rfl) ?_
            refine Wc.exit ?_
            obtain rfl := Option.some.inj h20
            exact ⟨_, _, rfl, rfl⟩
      · rintro st ⟨b19_, a20_, rfl, rfl⟩
        refine Wc.seq ?_
        refine Wc.region [] [] [4] [] [0] ⟨[(4, (.v (.int .i64 b19_), []))], [], [(0, [(0, .ex 1000000007 true (List.map GTerm.c a20_))])]⟩ _ (by kernel_rfl) .nil ?_
        refine Wc.ret ?_
        obtain rfl := Option.some.inj h
        exact ⟨.inl rfl, by kernel_rfl, by kernel_rfl⟩
theorem claws_markTermS {k : Nat} {a14_ : List GTerm} {b15_ : Int} {r : (List GTerm) × Int} (h : plaws_markTermS k a14_ b15_ = some r) : FnO Try.prog 38 [.io (.slx) [(0, .ex 1000000007 true (List.map GTerm.c a14_))], .v (.int .i64 b15_) []] (.v (.int .i64 r.2) []) [(0, .v .undef [(0, .ex 1000000007 true (List.map GTerm.c r.1))])] := (all_plaws_markTermS k) h

/-- laws.markTerm -/
def plaws_markTerm (k : Nat) (c27_ : GTerm) (b28_ : Int) : Option (GTerm × Int) :=
  (plaws_markTermS k c27_.gKids b28_).bind fun f29_ =>
  some (GTerm.mk c27_.gKind c27_.gName c27_.gNum f29_.1, f29_.2)
theorem claws_markTerm {k : Nat} {c27_ : GTerm} {b28_ : Int} {r : GTerm × Int} (h : plaws_markTerm k c27_ b28_ = some r) : FnO Try.prog 21 [.io (.agg [.int .i64 c27_.gKind, .str c27_.gName, .int .i64 c27_.gNum, .slx]) [(3, .ex 1000000007 true (List.map GTerm.c c27_.gKids))], .v (.int .i64 b28_) []] (.v (.int .i64 r.2) []) [(0, .v .undef [(3, .ex 1000000007 true (List.map GTerm.c r.1.gKids))])] := by
  refine FnO.of Try.func21 (rfl : Try.f21.body = some _) (Nat.le_of_ble_eq_true (by kernel_rfl)) (Nat.le_of_ble_eq_true (by kernel_rfl)) ?_
  intro w0 X0 Fin pv0 pb
  unfold plaws_markTerm at h
  refine Wc.seq ?_
  refine Wc.region [] [] [1, 2] [2] [0] ⟨[(1, (.v (.int .i64 b28_), [])), (2, (.ptr 2 0, []))], [(2, .cells [.int .i64 c27_.gKind, .str c27_.gName, .int .i64 c27_.gNum, .slx] [(3, .al (.a 0 3) [])])], [(0, [(3, .ex 1000000007 true (List.map GTerm.c c27_.gKids))])]⟩ _ (by kernel_rfl) .nil ?_
  refine Wc.seq ?_
  obtain ⟨f29_, h28, h⟩ := obind h
  refine Wc.region [{}, {}, {}, { io := [0], r := some (.v (.int .i64 f29_.2) []), outs := [(0, .v .undef [(0, .ex 1000000007 true (List.map GTerm.c f29_.1))])] }] [] [1] [] [0] ⟨[(1, (.v (.int .i64 f29_.2), []))], [], [(0, [(3, .ex 1000000007 true (List.map GTerm.c f29_.1))])]⟩ _ (by kernel_rfl) (.cons (FnO.any (args := [.io (.slx) [(0, .ex 1000000007 true (List.map GTerm.c c27_.gKids))], .v (.int .i64 b28_) []]) (claws_markTermS h28)) .nil) ?_
  refine Wc.seq ?_
  refine Wc.region [] [] [4] [] [0] ⟨[(4, (.v (.int .i64 f29_.2), []))], [], [(0, [(3, .ex 1000000007 true (List.map GTerm.c f29_.1))])]⟩ _ (by kernel_rfl) .nil ?_
  refine Wc.ret ?_
  obtain rfl := Option.some.inj h
  exact ⟨.inl rfl, by kernel_rfl, by kernel_rfl⟩

def plaws_szTermS_L1 (k : Nat) (rlaws_szTerm : GTerm → Int → Option Int) (rlaws_szTermS : (List GTerm) → Int → Option Int) (a33_ : List GTerm) : Nat → Int → Int → Option (Out Int Int)
  | 0, _, _ => none
  | m + 1, b35_, b36_ =>
    if (decide (b36_ < (a33_.length : Int))) = true then
      (at' a33_ b36_).bind fun c38_ =>
      (rlaws_szTerm c38_ b35_).bind fun b39_ =>
      if (decide (b39_ < 0)) = true then
        some (.ret (-1))
      else
        plaws_szTermS_L1 k rlaws_szTerm rlaws_szTermS a33_ m b39_ (wr.i64 (b36_ + 1))
    else
      some (.done b35_)
mutual
/-- laws.szTerm -/
def plaws_szTerm : Nat → GTerm → Int → Option Int
  | 0, _, _ => none
  | k + 1, c30_, b31_ =>
    if (decide ((wr.i64 (b31_ - (c30_.gName.size : Int))) < 0)) = true then
      some (-1)
    else
      (plaws_szTermS k c30_.gKids (wr.i64 (b31_ - (c30_.gName.size : Int)))).bind fun b32_ =>
      if (decide (b32_ < 0)) = true then
        some (-1)
      else
        some b32_
/-- laws.szTermS -/
def plaws_szTermS : Nat → (List GTerm) → Int → Option Int
  | 0, _, _ => none
  | k + 1, a33_, b34_ =>
    if (decide ((wr.i64 (b34_ - (a33_.length : Int))) < 0)) = true then
      some (-1)
    else
      (plaws_szTermS_L1 k (plaws_szTerm k) (plaws_szTermS k) a33_ k (wr.i64 (b34_ - (a33_.length : Int))) 0).bind fun out1 => match out1 with
      | .ret r => some r
      | .done b37_ =>
        some b37_
end
theorem all_plaws_szTerm : ∀ k : Nat, (∀ {c30_ : GTerm} {b31_ : Int} {r : Int}, plaws_szTerm k c30_ b31_ = some r → FnO Try.prog 33 [.v (.agg [.int .i64 c30_.gKind, .str c30_.gName, .int .i64 c30_.gNum, .sl (List.map GTerm.c c30_.gKids)]) [], .v (.int .i64 b31_) []] (.v (.int .i64 r) []) []) ∧
    (∀ {a33_ : List GTerm} {b34_ : Int} {r : Int}, plaws_szTermS k a33_ b34_ = some r → FnO Try.prog 40 [.v (.sl (List.map GTerm.c a33_)) [], .v (.int .i64 b34_) []] (.v (.int .i64 r) []) []) := by
  intro k
  induction k with
  | zero =>
    refine ⟨?_, ?_⟩
    · intro c30_ b31_ r h
      exact (onone (by rw [plaws_szTerm] at h; exact h)).elim
    · intro a33_ b34_ r h
      exact (onone (by rw [plaws_szTermS] at h; exact h)).elim
  | succ k ih =>
    obtain ⟨ih_plaws_szTerm, ih_plaws_szTermS⟩ := ih
    refine ⟨?_, ?_⟩
    · intro c30_ b31_ r h
      rw [plaws_szTerm] at h
      refine FnO.of Try.func33 (rfl : Try.f33.body = some _) (Nat.le_of_ble_eq_true (by kernel_rfl)) (Nat.le_of_ble_eq_true (by kernel_rfl)) ?_
      intro w0 X0 Fin pv0 pb
      refine Wc.seq ?_
      refine Wc.region [] [] [1, 2] [2] [] ⟨[(1, (.v (.int .i64 b31_), [])), (2, (.ptr 2 0, []))], [(2, .cells [.int .i64 c30_.gKind, .str c30_.gName, .int .i64 c30_.gNum, .sl (List.map GTerm.c c30_.gKids)] [])], []⟩ _ (by kernel_rfl) .nil ?_
      refine Wc.seq ?_
      refine Wc.region [] [] [1, 2] [2] [] ⟨[(1, (.v (.int .i64 (wr.i64 (b31_ - (c30_.gName.size : Int)))), [])), (2, (.ptr 2 0, []))], [(2, .cells [.int .i64 c30_.gKind, .str c30_.gName, .int .i64 c30_.gNum, .sl (List.map GTerm.c c30_.gKids)] [])], []⟩ _ (by kernel_rfl) .nil ?_
      refine Wc.seq ?_
      refine Wc.seq ?_
      refine Wc.region [] [] [1, 2, 11] [2] [] ⟨[(1, (.v (.int .i64 (wr.i64 (b31_ - (c30_.gName.size : Int)))), [])), (2, (.ptr 2 0, [])), (11, (.v (.bool (decide ((wr.i64 (b31_ - (c30_.gName.size : Int))) < 0))), []))], [(2, .cells [.int .i64 c30_.gKind, .str c30_.gName, .int .i64 c30_.gNum, .sl (List.map GTerm.c c30_.gKids)] [])], []⟩ _ (by kernel_rfl) .nil ?_
      rcases oif h with ⟨h29, h⟩ | ⟨h29, h⟩
      · refine Wc.condT h29 (by kernel_rfl) ?_
        refine Wc.seq ?_
        refine Wc.region [] [] [4] [] [] ⟨[(4, (.v (.int .i64 (-1)), []))], [], []⟩ _ (by kernel_rfl) .nil ?_
        refine Wc.ret ?_
        obtain rfl := Option.some.inj h
        exact ⟨.inl rfl, by kernel_rfl, by kernel_rfl⟩
      · refine Wc.condF h29 (by kernel_rfl) ?_
        refine Wc.fix (st' := ⟨[(1, (.v (.int .i64 (wr.i64 (b31_ - (c30_.gName.size : Int)))), [])), (2, (.ptr 2 0, []))], [(2, .cells [.int .i64 c30_.gKind, .str c30_.gName, .int .i64 c30_.gNum, .sl (List.map GTerm.c c30_.gKids)] [])], []⟩) [] [1, 2] [2] [] (by kernel_rfl) ?_
        refine Wc.skip ?_
        refine Wc.seq ?_
        obtain ⟨b32_, h30, h⟩ := obind h
        refine Wc.region [{}, {}, {}, { r := some (.v (.int .i64 b32_) []) }] [] [1] [] [] ⟨[(1, (.v (.int .i64 b32_), []))], [], []⟩ _ (by kernel_rfl) (.cons (ih_plaws_szTermS h30) .nil) ?_
        refine Wc.seq ?_
        refine Wc.seq ?_
        refine Wc.region [] [] [1, 17] [] [] ⟨[(1, (.v (.int .i64 b32_), [])), (17, (.v (.bool (decide (b32_ < 0))), []))], [], []⟩ _ (by kernel_rfl) .nil ?_
        rcases oif h with ⟨h31, h⟩ | ⟨h31, h⟩
        · refine Wc.condT h31 (by kernel_rfl) ?_
          refine Wc.seq ?_
          refine Wc.region [] [] [4] [] [] ⟨[(4, (.v (.int .i64 (-1)), []))], [], []⟩ _ (by kernel_rfl) .nil ?_
          refine Wc.ret ?_
          obtain rfl := Option.some.inj h
          exact ⟨.inl rfl, by kernel_rfl, by kernel_rfl⟩
        · refine Wc.condF h31 (by kernel_rfl) ?_
          refine Wc.fix (st' := ⟨[(1, (.v (.int .i64 b32_), []))], [], []⟩) [] [1] [] [] (by kernel_rfl) ?_
          refine Wc.skip ?_
          refine Wc.seq ?_
          refine Wc.region [] [] [4] [] [] ⟨[(4, (.v (.int .i64 b32_), []))], [], []⟩ _ (by kernel_rfl) .nil ?_
          refine Wc.ret ?_
          obtain rfl := Option.some.inj h
          exact ⟨.inl rfl, by kernel_rfl, by kernel_rfl⟩
    · intro a33_ b34_ r h
      rw [plaws_szTermS] at h
      refine FnO.of Try.func40 (rfl : Try.f40.body = some _) (Nat.le_of_ble_eq_true (by kernel_rfl)) (Nat.le_of_ble_eq_true (by kernel_rfl)) ?_
      intro w0 X0 Fin pv0 pb
      refine Wc.seq ?_
      refine Wc.region [] [] [0, 1] [] [] ⟨[(0, (.v (.sl (List.map GTerm.c a33_)), [])), (1, (.v (.int .i64 b34_), []))], [], []⟩ _ (by kernel_rfl) .nil ?_
      refine Wc.seq ?_
      refine Wc.region [{}, {}, { v := some (.int .i64 (a33_.length : Int)) }] [] [0, 1] [] [] ⟨[(0, (.v (.sl (List.map GTerm.c a33_)), [])), (1, (.v (.int .i64 (wr.i64 (b34_ - (a33_.length : Int)))), []))], [], []⟩ _ (by kernel_rfl) (.cons (len_obl GTerm.c a33_) .nil) ?_
      refine Wc.seq ?_
      refine Wc.seq ?_
      refine Wc.region [] [] [0, 1, 11] [] [] ⟨[(0, (.v (.sl (List.map GTerm.c a33_)), [])), (1, (.v (.int .i64 (wr.i64 (b34_ - (a33_.length : Int)))), [])), (11, (.v (.bool (decide ((wr.i64 (b34_ - (a33_.length : Int))) < 0))), []))], [], []⟩ _ (by kernel_rfl) .nil ?_
      rcases oif h with ⟨h32, h⟩ | ⟨h32, h⟩
      · refine Wc.condT h32 (by kernel_rfl) ?_
        refine Wc.seq ?_
        refine Wc.region [] [] [4] [] [] ⟨[(4, (.v (.int .i64 (-1)), []))], [], []⟩ _ (by kernel_rfl) .nil ?_
        refine Wc.ret ?_
        obtain rfl := Option.some.inj h
        exact ⟨.inl rfl, by kernel_rfl, by kernel_rfl⟩
      · refine Wc.condF h32 (by kernel_rfl) ?_
        refine Wc.fix (st' := ⟨[(0, (.v (.sl (List.map GTerm.c a33_)), [])), (1, (.v (.int .i64 (wr.i64 (b34_ - (a33_.length : Int)))), []))], [], []⟩) [] [0, 1] [] [] (by kernel_rfl) ?_
        refine Wc.skip ?_
        refine Wc.seq ?_
        refine Wc.seq ?_
        refine Wc.region [] [] [0, 1, 5] [] [] ⟨[(0, (.v (.sl (List.map GTerm.c a33_)), [])), (1, (.v (.int .i64 (wr.i64 (b34_ - (a33_.length : Int)))), [])), (5, (.v (.int .i64 0), []))], [], []⟩ _ (by kernel_rfl) .nil ?_
        obtain ⟨out1, h33, h⟩ := obind h
        refine Wc.lastJ (fun st => ∃ (b37_ : Int), out1 = .done b37_ ∧ st = ⟨[(1, (.v (.int .i64 b37_), []))], [], []⟩) ?_ ?_
        · refine Wc.block ?_
          refine Wc.loop (fun m st => ∃ (b35_ : Int) (b36_ : Int), st = ⟨[(0, (.v (.sl (List.map GTerm.c a33_)), [])), (1, (.v (.int .i64 b35_), [])), (5, (.v (.int .i64 b36_), []))], [], []⟩ ∧ plaws_szTermS_L1 k (plaws_szTerm k) (plaws_szTermS k) a33_ m b35_ b36_ = some out1) ?_ k ⟨_, _, rfl, h33⟩
          rintro m st ⟨b35_, b36_, rfl, h33⟩
          cases m with
          | zero => exact (onone h33).elim
          | succ m =>
            refine Wc.seq ?_
            refine Wc.seq ?_
            refine Wc.region [{}, {}, { v := some (.int .i64 (a33_.length : Int)) }] [] [0, 1, 5, 15] [] [] ⟨[(0, (.v (.sl (List.map GTerm.c a33_)), [])), (1, (.v (.int .i64 b35_), [])), (5, (.v (.int .i64 b36_), [])), (15, (.v (.bool (decide (b36_ < (a33_.length : Int)))), []))], [], []⟩ _ (by kernel_rfl) (.cons (len_obl GTerm.c a33_) .nil) ?_
            rcases oif h33 with ⟨h34, h33⟩ | ⟨h34, h33⟩
            · refine Wc.condT h34 (by kernel_rfl) ?_
              refine Wc.fix (st' := ⟨[(0, (.v (.sl (List.map GTerm.c a33_)), [])), (1, (.v (.int .i64 b35_), [])), (5, (.v (.int .i64 b36_), []))], [], []⟩) [] [0, 1, 5] [] [] (by kernel_rfl) ?_
              refine Wc.skip ?_
              refine Wc.seq ?_
              refine Wc.block ?_
              refine Wc.seq ?_
              obtain ⟨c38_, h35, h33⟩ := obind h33
              obtain ⟨b39_, h36, h33⟩ := obind h33
              refine Wc.region [{}, {}, { v := some (.vptr [.int .i64 c38_.gKind, .str c38_.gName, .int .i64 c38_.gNum, .sl (List.map GTerm.c c38_.gKids)]) }, {}, {}, { r := some (.v (.int .i64 b39_) []) }] [] [0, 1, 5] [] [] ⟨[(0, (.v (.sl (List.map GTerm.c a33_)), [])), (1, (.v (.int .i64 b39_), [])), (5, (.v (.int .i64 b36_), []))], [], []⟩ _ (by kernel_rfl) (.cons (at_obl (c := GTerm.c) (GTerm.c_eq c38_) GTerm.c_len h35) (.cons (len_ok 4 [.int .i64 c38_.gKind, .str c38_.gName, .int .i64 c38_.gNum, .sl (List.map GTerm.c c38_.gKids)]) (.cons (ih_plaws_szTerm h36) .nil))) ?_
              refine Wc.seq ?_
              refine Wc.region [] [] [0, 1, 5, 25] [] [] ⟨[(0, (.v (.sl (List.map GTerm.c a33_)), [])), (1, (.v (.int .i64 b39_), [])), (5, (.v (.int .i64 b36_), [])), (25, (.v (.bool (decide (b39_ < 0))), []))], [], []⟩ _ (by kernel_rfl) .nil ?_
              rcases oif h33 with ⟨h37, h33⟩ | ⟨h37, h33⟩
              · refine Wc.condT h37 (by kernel_rfl) ?_
                refine Wc.seq ?_
                refine Wc.region [] [] [4] [] [] ⟨[(4, (.v (.int .i64 (-1)), []))], [], []⟩ _ (by kernel_rfl) .nil ?_
                refine Wc.ret ?_
                obtain rfl := Option.some.inj h33
                obtain rfl := Option.some.inj h
                exact ⟨.inl rfl, by kernel_rfl, by kernel_rfl⟩
              · refine Wc.condF h37 (by kernel_rfl) ?_
                refine Wc.fix (st' := ⟨[(0, (.v (.sl (List.map GTerm.c a33_)), [])), (1, (.v (.int .i64 b39_), [])), (5, (.v (.int .i64 b36_), []))], [], []⟩) [] [0, 1, 5] [] [] (by kernel_rfl) ?_
                refine Wc.skip ?_
                refine Wc.region [] [] [0, 1, 5] [] [] ⟨[(0, (.v (.sl (List.map GTerm.c a33_)), [])), (1, (.v (.int .i64 b39_), [])), (5, (.v (.int .i64 (wr.i64 (b36_ + 1))), []))], [], []⟩ _ (by kernel_rfl) .nil ?_
                exact ⟨_, Nat.lt_succ_self _, _, _, rfl, h33⟩
            · refine Wc.condF h34 (by kernel_rfl) ?_
              refine Wc.fix (st' := ⟨[(1, (.v (.int .i64 b35_), []))], [], []⟩) [] [1] [] [] (by kernel_rfl) ?_
              refine Wc.exit ?_
              obtain rfl := Option.some.inj h33
              exact ⟨_, rfl, rfl⟩
        · rintro st ⟨b37_, rfl, rfl⟩
          refine Wc.seq ?_
          refine Wc.region [] [] [4] [] [] ⟨[(4, (.v (.int .i64 b37_), []))], [], []⟩ _ (by kernel_rfl) .nil ?_
          refine Wc.ret ?_
          obtain rfl := Option.some.inj h
          exact ⟨.inl rfl, by kernel_rfl, by kernel_rfl⟩
theorem claws_szTerm {k : Nat} {c30_ : GTerm} {b31_ : Int} {r : Int} (h : plaws_szTerm k c30_ b31_ = some r) : FnO Try.prog 33 [.v (.agg [.int .i64 c30_.gKind, .str c30_.gName, .int .i64 c30_.gNum, .sl (List.map GTerm.c c30_.gKids)]) [], .v (.int .i64 b31_) []] (.v (.int .i64 r) []) [] := (all_plaws_szTerm k).1 h
theorem claws_szTermS {k : Nat} {a33_ : List GTerm} {b34_ : Int} {r : Int} (h : plaws_szTermS k a33_ b34_ = some r) : FnO Try.prog 40 [.v (.sl (List.map GTerm.c a33_)) [], .v (.int .i64 b34_) []] (.v (.int .i64 r) []) [] := (all_plaws_szTerm k).2 h

def pspec_l03Count_L1 (k : Nat) (rspec_l03Count : GTerm → Int → Option Int) (c40_ : GTerm) : Nat → Int → Int → Option (Out Int Int)
  | 0, _, _ => none
  | m + 1, b42_, b43_ =>
    if (decide (b43_ < (c40_.gKids.length : Int))) = true then
      if (decide (b42_ ≥ 0)) = true then
        (at' c40_.gKids b43_).bind fun c45_ =>
        (rspec_l03Count c45_ b42_).bind fun b46_ =>
        pspec_l03Count_L1 k rspec_l03Count c40_ m b46_ (wr.i64 (b43_ + 1))
      else
        some (.done b42_)
    else
      some (.done b42_)
mutual
/-- spec.l03Count -/
def pspec_l03Count : Nat → GTerm → Int → Option Int
  | 0, _, _ => none
  | k + 1, c40_, b41_ =>
    (pspec_l03Count_L1 k (pspec_l03Count k) c40_ k (wr.i64 (b41_ - 1)) 0).bind fun out1 => match out1 with
    | .ret r => some r
    | .done b44_ =>
      some b44_
end
theorem all_pspec_l03Count : ∀ k : Nat, (∀ {c40_ : GTerm} {b41_ : Int} {r : Int}, pspec_l03Count k c40_ b41_ = some r → FnO Try.prog 112 [.v (.agg [.int .i64 c40_.gKind, .str c40_.gName, .int .i64 c40_.gNum, .sl (List.map GTerm.c c40_.gKids)]) [], .v (.int .i64 b41_) []] (.v (.int .i64 r) []) []) := by
  intro k
  induction k with
  | zero =>
    · intro c40_ b41_ r h
      exact (onone (by rw [pspec_l03Count] at h; exact h)).elim
  | succ k ih =>
    have ih_pspec_l03Count := @ih
    · intro c40_ b41_ r h
      rw [pspec_l03Count] at h
      refine FnO.of Try.func112 (rfl : Try.f112.body = some _) (Nat.le_of_ble_eq_true (by kernel_rfl)) (Nat.le_of_ble_eq_true (by kernel_rfl)) ?_
      intro w0 X0 Fin pv0 pb
      refine Wc.seq ?_
      refine Wc.region [] [] [1, 2] [2] [] ⟨[(1, (.v (.int .i64 b41_), [])), (2, (.ptr 2 0, []))], [(2, .cells [.int .i64 c40_.gKind, .str c40_.gName, .int .i64 c40_.gNum, .sl (List.map GTerm.c c40_.gKids)] [])], []⟩ _ (by kernel_rfl) .nil ?_
      refine Wc.seq ?_
      refine Wc.region [] [] [1, 2] [2] [] ⟨[(1, (.v (.int .i64 (wr.i64 (b41_ - 1))), [])), (2, (.ptr 2 0, []))], [(2, .cells [.int .i64 c40_.gKind, .str c40_.gName, .int .i64 c40_.gNum, .sl (List.map GTerm.c c40_.gKids)] [])], []⟩ _ (by kernel_rfl) .nil ?_
      refine Wc.seq ?_
      refine Wc.seq ?_
      refine Wc.region [] [] [1, 2, 5] [2] [] ⟨[(1, (.v (.int .i64 (wr.i64 (b41_ - 1))), [])), (2, (.ptr 2 0, [])), (5, (.v (.int .i64 0), []))], [(2, .cells [.int .i64 c40_.gKind, .str c40_.gName, .int .i64 c40_.gNum, .sl (List.map GTerm.c c40_.gKids)] [])], []⟩ _ (by kernel_rfl) .nil ?_
      obtain ⟨out1, h38, h⟩ := obind h
      refine Wc.lastJ (fun st => ∃ (b44_ : Int), out1 = .done b44_ ∧ st = ⟨[(1, (.v (.int .i64 b44_), []))], [], []⟩) ?_ ?_
      · refine Wc.block ?_
        refine Wc.loop (fun m st => ∃ (b42_ : Int) (b43_ : Int), st = ⟨[(1, (.v (.int .i64 b42_), [])), (2, (.ptr 2 0, [])), (5, (.v (.int .i64 b43_), []))], [(2, .cells [.int .i64 c40_.gKind, .str c40_.gName, .int .i64 c40_.gNum, .sl (List.map GTerm.c c40_.gKids)] [])], []⟩ ∧ pspec_l03Count_L1 k (pspec_l03Count k) c40_ m b42_ b43_ = some out1) ?_ k ⟨_, _, rfl, h38⟩
        rintro m st ⟨b42_, b43_, rfl, h38⟩
        cases m with
        | zero => exact (onone h38).elim
        | succ m =>
          refine Wc.seq ?_
          refine Wc.seq ?_
          rcases oif h38 with ⟨h39, h38⟩ | ⟨h39, h38⟩
          · refine Wc.region [{}, {}, {}, { v := some (.int .i64 (c40_.gKids.length : Int)) }, {}, { re := some (.bool true) }] [] [1, 2, 5, 16] [2] [] ⟨[(1, (.v (.int .i64 b42_), [])), (2, (.ptr 2 0, [])), (5, (.v (.int .i64 b43_), [])), (16, (.v (.bool (decide (b42_ ≥ 0))), []))], [(2, .cells [.int .i64 c40_.gKind, .str c40_.gName, .int .i64 c40_.gNum, .sl (List.map GTerm.c c40_.gKids)] [])], []⟩ _ (by kernel_rfl) (.cons (len_obl GTerm.c c40_.gKids) (.cons (congrArg AV.bool h39) .nil)) ?_
            rcases oif h38 with ⟨h40, h38⟩ | ⟨h40, h38⟩
            · refine Wc.condT h40 (by kernel_rfl) ?_
              refine Wc.fix (st' := ⟨[(1, (.v (.int .i64 b42_), [])), (2, (.ptr 2 0, [])), (5, (.v (.int .i64 b43_), []))], [(2, .cells [.int .i64 c40_.gKind, .str c40_.gName, .int .i64 c40_.gNum, .sl (List.map GTerm.c c40_.gKids)] [])], []⟩) [] [1, 2, 5] [2] [] (by kernel_rfl) ?_
              refine Wc.skip ?_
              refine Wc.seq ?_
              refine Wc.block ?_
              obtain ⟨c45_, h41, h38⟩ := obind h38
              obtain ⟨b46_, h42, h38⟩ := obind h38
              refine Wc.region [{}, {}, {}, { v := some (.vptr [.int .i64 c45_.gKind, .str c45_.gName, .int .i64 c45_.gNum, .sl (List.map GTerm.c c45_.gKids)]) }, {}, {}, { r := some (.v (.int .i64 b46_) []) }] [] [1, 2, 5] [2] [] ⟨[(1, (.v (.int .i64 b46_), [])), (2, (.ptr 2 0, [])), (5, (.v (.int .i64 b43_), []))], [(2, .cells [.int .i64 c40_.gKind, .str c40_.gName, .int .i64 c40_.gNum, .sl (List.map GTerm.c c40_.gKids)] [])], []⟩ _ (by kernel_rfl) (.cons (at_obl (c := GTerm.c) (GTerm.c_eq c45_) GTerm.c_len h41) (.cons (len_ok 4 [.int .i64 c45_.gKind, .str c45_.gName, .int .i64 c45_.gNum, .sl (List.map GTerm.c c45_.gKids)]) (.cons (ih_pspec_l03Count h42) .nil))) ?_
              refine Wc.region [] [] [1, 2, 5] [2] [] ⟨[(1, (.v (.int .i64 b46_), [])), (2, (.ptr 2 0, [])), (5, (.v (.int .i64 (wr.i64 (b43_ + 1))), []))], [(2, .cells [.int .i64 c40_.gKind, .str c40_.gName, .int .i64 c40_.gNum, .sl (List.map GTerm.c c40_.gKids)] [])], []⟩ _ (by kernel_rfl) .nil ?_
              exact ⟨_, Nat.lt_succ_self _, _, _, rfl, h38⟩
            · refine Wc.condF h40 (by kernel_rfl) ?_
              refine Wc.fix (st' := ⟨[(1, (.v (.int .i64 b42_), []))], [], []⟩) [] [1] [] [] (by kernel_rfl) ?_
              refine Wc.exit ?_
              obtain rfl := Option.some.inj h38
              exact ⟨_, rfl, rfl⟩
          · refine Wc.region [{}, {}, {}, { v := some (.int .i64 (c40_.gKids.length : Int)) }, {}, { re := some (.bool false) }] [] [1, 2, 5, 16] [2] [] ⟨[(1, (.v (.int .i64 b42_), [])), (2, (.ptr 2 0, [])), (5, (.v (.int .i64 b43_), [])), (16, (.v (.bool false), []))], [(2, .cells [.int .i64 c40_.gKind, .str c40_.gName, .int .i64 c40_.gNum, .sl (List.map GTerm.c c40_.gKids)] [])], []⟩ _ (by kernel_rfl) (.cons (len_obl GTerm.c c40_.gKids) (.cons (congrArg AV.bool h39) .nil)) ?_
            refine Wc.condF rfl (by kernel_rfl) ?_
            refine Wc.fix (st' := ⟨[(1, (.v (.int .i64 b42_), []))], [], []⟩) [] [1] [] [] (by kernel_rfl) ?_
            refine Wc.exit ?_
            obtain rfl := Option.some.inj h38
            exact ⟨_, rfl, rfl⟩
      · rintro st ⟨b44_, rfl, rfl⟩
        refine Wc.seq ?_
        refine Wc.region [] [] [4] [] [] ⟨[(4, (.v (.int .i64 b44_), []))], [], []⟩ _ (by kernel_rfl) .nil ?_
        refine Wc.ret ?_
        obtain rfl := Option.some.inj h
        exact ⟨.inl rfl, by kernel_rfl, by kernel_rfl⟩
theorem cspec_l03Count {k : Nat} {c40_ : GTerm} {b41_ : Int} {r : Int} (h : pspec_l03Count k c40_ b41_ = some r) : FnO Try.prog 112 [.v (.agg [.int .i64 c40_.gKind, .str c40_.gName, .int .i64 c40_.gNum, .sl (List.map GTerm.c c40_.gKids)]) [], .v (.int .i64 b41_) []] (.v (.int .i64 r) []) [] := (all_pspec_l03Count k) h

/-- spec.l01In -/
def pspec_l01In (k : Nat) (b47_ : Int) (b48_ : Int) (b49_ : Int) : Option Bool :=
  if (decide (b47_ ≥ b48_)) = true then
    some (decide (b47_ ≤ b49_))
  else
    some false
theorem cspec_l01In {k : Nat} {b47_ : Int} {b48_ : Int} {b49_ : Int} {r : Bool} (h : pspec_l01In k b47_ b48_ b49_ = some r) : FnO Try.prog 46 [.v (.int .i64 b47_) [], .v (.int .i64 b48_) [], .v (.int .i64 b49_) []] (.v (.bool r) []) [] := by
  refine FnO.of Try.func46 (rfl : Try.f46.body = some _) (Nat.le_of_ble_eq_true (by kernel_rfl)) (Nat.le_of_ble_eq_true (by kernel_rfl)) ?_
  intro w0 X0 Fin pv0 pb
  unfold pspec_l01In at h
  refine Wc.seq ?_
  refine Wc.region [] [] [0, 1, 2] [] [] ⟨[(0, (.v (.int .i64 b47_), [])), (1, (.v (.int .i64 b48_), [])), (2, (.v (.int .i64 b49_), []))], [], []⟩ _ (by kernel_rfl) .nil ?_
  refine Wc.seq ?_
  rcases oif h with ⟨h43, h⟩ | ⟨h43, h⟩
  · refine Wc.region [{}, {}, {}, { re := some (.bool true) }] [] [6] [] [] ⟨[(6, (.v (.bool (decide (b47_ ≤ b49_))), []))], [], []⟩ _ (by kernel_rfl) (.cons (congrArg AV.bool h43) .nil) ?_
    refine Wc.ret ?_
    obtain rfl := Option.some.inj h
    exact ⟨.inl rfl, by kernel_rfl, by kernel_rfl⟩
  · refine Wc.region [{}, {}, {}, { re := some (.bool false) }] [] [6] [] [] ⟨[(6, (.v (.bool false), []))], [], []⟩ _ (by kernel_rfl) (.cons (congrArg AV.bool h43) .nil) ?_
    refine Wc.ret ?_
    obtain rfl := Option.some.inj h
    exact ⟨.inl rfl, by kernel_rfl, by kernel_rfl⟩

def pspec_l03Name_L1 (k : Nat) (e50_ : ByteArray) : Nat → Int → Option (Out Bool Unit)
  | 0, _ => none
  | m + 1, b51_ =>
    if (decide (b51_ < (e50_.size : Int))) = true then
      if 0 ≤ b51_ ∧ (b51_).toNat < e50_.size then
        if (decide ((bt e50_ b51_) < 33)) = true then
          some (.ret false)
        else
          if 0 ≤ b51_ ∧ (b51_).toNat < e50_.size then
            if (decide ((bt e50_ b51_) > 126)) = true then
              some (.ret false)
            else
              if 0 ≤ b51_ ∧ (b51_).toNat < e50_.size then
                if ((bt e50_ b51_) == 39) = true then
                  some (.ret false)
                else
                  if 0 ≤ b51_ ∧ (b51_).toNat < e50_.size then
                    if ((bt e50_ b51_) == 34) = true then
                      some (.ret false)
                    else
                      pspec_l03Name_L1 k e50_ m (wr.i64 (b51_ + 1))
                  else none
              else none
          else none
      else none
    else
      some (.done ())
/-- spec.l03Name -/
def pspec_l03Name (k : Nat) (e50_ : ByteArray) : Option Bool :=
  (pspec_l03Name_L1 k e50_ k 0).bind fun out1 => match out1 with
  | .ret r => some r
  | .done () =>
    (pspec_l01In k (e50_.size : Int) 1 20).bind fun d52_ =>
    some d52_
theorem cspec_l03Name {k : Nat} {e50_ : ByteArray} {r : Bool} (h : pspec_l03Name k e50_ = some r) : FnO Try.prog 116 [.v (.str e50_) []] (.v (.bool r) []) [] := by
  refine FnO.of Try.func116 (rfl : Try.f116.body = some _) (Nat.le_of_ble_eq_true (by kernel_rfl)) (Nat.le_of_ble_eq_true (by kernel_rfl)) ?_
  intro w0 X0 Fin pv0 pb
  unfold pspec_l03Name at h
  refine Wc.seq ?_
  refine Wc.region [] [] [0] [] [] ⟨[(0, (.v (.str e50_), []))], [], []⟩ _ (by kernel_rfl) .nil ?_
  refine Wc.seq ?_
  refine Wc.seq ?_
  refine Wc.region [] [] [0, 3] [] [] ⟨[(0, (.v (.str e50_), [])), (3, (.v (.int .i64 0), []))], [], []⟩ _ (by kernel_rfl) .nil ?_
  obtain ⟨out1, h44, h⟩ := obind h
  refine Wc.lastJ (fun st => out1 = .done () ∧ st = ⟨[(0, (.v (.str e50_), []))], [], []⟩) ?_ ?_
  · refine Wc.block ?_
    refine Wc.loop (fun m st => ∃ (b51_ : Int), st = ⟨[(0, (.v (.str e50_), [])), (3, (.v (.int .i64 b51_), []))], [], []⟩ ∧ pspec_l03Name_L1 k e50_ m b51_ = some out1) ?_ k ⟨_, rfl, h44⟩
    rintro m st ⟨b51_, rfl, h44⟩
    cases m with
    | zero => exact (onone h44).elim
    | succ m =>
      refine Wc.seq ?_
      refine Wc.seq ?_
      refine Wc.region [] [] [0, 3, 7] [] [] ⟨[(0, (.v (.str e50_), [])), (3, (.v (.int .i64 b51_), [])), (7, (.v (.bool (decide (b51_ < (e50_.size : Int)))), []))], [], []⟩ _ (by kernel_rfl) .nil ?_
      rcases oif h44 with ⟨h45, h44⟩ | ⟨h45, h44⟩
      · refine Wc.condT h45 (by kernel_rfl) ?_
        refine Wc.fix (st' := ⟨[(0, (.v (.str e50_), [])), (3, (.v (.int .i64 b51_), []))], [], []⟩) [] [0, 3] [] [] (by kernel_rfl) ?_
        refine Wc.skip ?_
        refine Wc.seq ?_
        refine Wc.block ?_
        refine Wc.seq ?_
        obtain ⟨h46, h44⟩ := oguard h44
        rcases oif h44 with ⟨h47, h44⟩ | ⟨h47, h44⟩
        · refine Wc.region [{}, {}, {}, {}, { re := some (.bool true) }] [] [0, 3, 31] [] [] ⟨[(0, (.v (.str e50_), [])), (3, (.v (.int .i64 b51_), [])), (31, (.v (.bool true), []))], [], []⟩ _ (by kernel_rfl) (.cons h46 (.cons (congrArg AV.bool h47) .nil)) ?_
          refine Wc.condT rfl (by kernel_rfl) ?_
          refine Wc.seq ?_
          refine Wc.region [] [] [2] [] [] ⟨[(2, (.v (.bool false), []))], [], []⟩ _ (by kernel_rfl) .nil ?_
          refine Wc.ret ?_
          obtain rfl := Option.some.inj h44
          obtain rfl := Option.some.inj h
          exact ⟨.inl rfl, by kernel_rfl, by kernel_rfl⟩
        · obtain ⟨h48, h44⟩ := oguard h44
          rcases oif h44 with ⟨h49, h44⟩ | ⟨h49, h44⟩
          · refine Wc.region [{}, {}, {}, {}, { re := some (.bool false) }, {}, {}, {}, {}, {}, { re := some (.bool true) }] [] [0, 3, 31] [] [] ⟨[(0, (.v (.str e50_), [])), (3, (.v (.int .i64 b51_), [])), (31, (.v (.bool true), []))], [], []⟩ _ (by kernel_rfl) (.cons h46 (.cons (congrArg AV.bool h47) (.cons h48 (.cons (congrArg AV.bool h49) .nil)))) ?_
            refine Wc.condT rfl (by kernel_rfl) ?_
            refine Wc.seq ?_
            refine Wc.region [] [] [2] [] [] ⟨[(2, (.v (.bool false), []))], [], []⟩ _ (by kernel_rfl) .nil ?_
            refine Wc.ret ?_
            obtain rfl := Option.some.inj h44
            obtain rfl := Option.some.inj h
            exact ⟨.inl rfl, by kernel_rfl, by kernel_rfl⟩
          · obtain ⟨h50, h44⟩ := oguard h44
            rcases oif h44 with ⟨h51, h44⟩ | ⟨h51, h44⟩
            · refine Wc.region [{}, {}, {}, {}, { re := some (.bool false) }, {}, {}, {}, {}, {}, { re := some (.bool false) }, {}, {}, {}, {}, {}, { re := some (.bool true) }] [] [0, 3, 31] [] [] ⟨[(0, (.v (.str e50_), [])), (3, (.v (.int .i64 b51_), [])), (31, (.v (.bool true), []))], [], []⟩ _ (by kernel_rfl) (.cons h46 (.cons (congrArg AV.bool h47) (.cons h48 (.cons (congrArg AV.bool h49) (.cons h50 (.cons (congrArg AV.bool h51) .nil)))))) ?_
              refine Wc.condT rfl (by kernel_rfl) ?_
              refine Wc.seq ?_
              refine Wc.region [] [] [2] [] [] ⟨[(2, (.v (.bool false), []))], [], []⟩ _ (by kernel_rfl) .nil ?_
              refine Wc.ret ?_
              obtain rfl := Option.some.inj h44
              obtain rfl := Option.some.inj h
              exact ⟨.inl rfl, by kernel_rfl, by kernel_rfl⟩
            · obtain ⟨h52, h44⟩ := oguard h44
              refine Wc.region [{}, {}, {}, {}, { re := some (.bool false) }, {}, {}, {}, {}, {}, { re := some (.bool false) }, {}, {}, {}, {}, {}, { re := some (.bool false) }] [] [0, 3, 31] [] [] ⟨[(0, (.v (.str e50_), [])), (3, (.v (.int .i64 b51_), [])), (31, (.v (.bool ((bt e50_ b51_) == 34)), []))], [], []⟩ _ (by kernel_rfl) (.cons h46 (.cons (congrArg AV.bool h47) (.cons h48 (.cons (congrArg AV.bool h49) (.cons h50 (.cons (congrArg AV.bool h51) (.cons h52 .nil))))))) ?_
              rcases oif h44 with ⟨h53, h44⟩ | ⟨h53, h44⟩
              · refine Wc.condT h53 (by kernel_rfl) ?_
                refine Wc.seq ?_
                refine Wc.region [] [] [2] [] [] ⟨[(2, (.v (.bool false), []))], [], []⟩ _ (by kernel_rfl) .nil ?_
                refine Wc.ret ?_
                obtain rfl := Option.some.inj h44
                obtain rfl := Option.some.inj h
                exact ⟨.inl rfl, by kernel_rfl, by kernel_rfl⟩
              · refine Wc.condF h53 (by kernel_rfl) ?_
                refine Wc.fix (st' := ⟨[(0, (.v (.str e50_), [])), (3, (.v (.int .i64 b51_), []))], [], []⟩) [] [0, 3] [] [] (by kernel_rfl) ?_
                refine Wc.skip ?_
                refine Wc.region [] [] [0, 3] [] [] ⟨[(0, (.v (.str e50_), [])), (3, (.v (.int .i64 (wr.i64 (b51_ + 1))), []))], [], []⟩ _ (by kernel_rfl) .nil ?_
                exact ⟨_, Nat.lt_succ_self _, _, rfl, h44⟩
      · refine Wc.condF h45 (by kernel_rfl) ?_
        refine Wc.fix (st' := ⟨[(0, (.v (.str e50_), []))], [], []⟩) [] [0] [] [] (by kernel_rfl) ?_
        refine Wc.exit ?_
        obtain rfl := Option.some.inj h44
        exact ⟨rfl, rfl⟩
  · rintro st ⟨rfl, rfl⟩
    refine Wc.seq ?_
    obtain ⟨d52_, h54, h⟩ := obind h
    refine Wc.region [{}, {}, { r := some (.v (.bool d52_) []) }] [] [2] [] [] ⟨[(2, (.v (.bool d52_), []))], [], []⟩ _ (by kernel_rfl) (.cons (cspec_l01In h54) .nil) ?_
    refine Wc.ret ?_
    obtain rfl := Option.some.inj h
    exact ⟨.inl rfl, by kernel_rfl, by kernel_rfl⟩

/-- spec.l03One -/
def pspec_l03One (k : Nat) (c53_ : GTerm) : Option Bool :=
  if (c53_.gKind == 1) = true then
    (pspec_l01In k c53_.gNum 0 99999).bind fun d54_ =>
    if d54_ = true then
      if (sEq c53_.gName (bs [])) = true then
        some ((c53_.gKids.length : Int) == 0)
      else
        some false
    else
      some false
  else
    if (c53_.gKind == 2) = true then
      (pspec_l03Name k c53_.gName).bind fun d55_ =>
      if d55_ = true then
        if (c53_.gNum == 0) = true then
          some ((c53_.gKids.length : Int) == 0)
        else
          some false
      else
        some false
    else
      if (c53_.gKind == 3) = true then
        (pspec_l01In k c53_.gNum (-999999999) 999999999).bind fun d56_ =>
        if d56_ = true then
          if (sEq c53_.gName (bs [])) = true then
            some ((c53_.gKids.length : Int) == 0)
          else
            some false
        else
          some false
      else
        if (c53_.gKind == 4) = true then
          (pspec_l03Name k c53_.gName).bind fun d57_ =>
          if d57_ = true then
            if (c53_.gNum == 0) = true then
              (pspec_l01In k (c53_.gKids.length : Int) 1 5).bind fun d58_ =>
              some d58_
            else
              some false
          else
            some false
        else
          some false
theorem cspec_l03One {k : Nat} {c53_ : GTerm} {r : Bool} (h : pspec_l03One k c53_ = some r) : FnO Try.prog 115 [.v (.agg [.int .i64 c53_.gKind, .str c53_.gName, .int .i64 c53_.gNum, .sl (List.map GTerm.c c53_.gKids)]) []] (.v (.bool r) []) [] := by
  refine FnO.of Try.func115 (rfl : Try.f115.body = some _) (Nat.le_of_ble_eq_true (by kernel_rfl)) (Nat.le_of_ble_eq_true (by kernel_rfl)) ?_
  intro w0 X0 Fin pv0 pb
  unfold pspec_l03One at h
  refine Wc.seq ?_
  refine Wc.region [] [] [1] [1] [] ⟨[(1, (.ptr 1 0, []))], [(1, .cells [.int .i64 c53_.gKind, .str c53_.gName, .int .i64 c53_.gNum, .sl (List.map GTerm.c c53_.gKids)] [])], []⟩ _ (by kernel_rfl) .nil ?_
  refine Wc.seq ?_
  refine Wc.seq ?_
  refine Wc.region [] [] [1, 4] [1] [] ⟨[(1, (.ptr 1 0, [])), (4, (.v (.int .i64 c53_.gKind), []))], [(1, .cells [.int .i64 c53_.gKind, .str c53_.gName, .int .i64 c53_.gNum, .sl (List.map GTerm.c c53_.gKids)] [])], []⟩ _ (by kernel_rfl) .nil ?_
  refine Wc.block ?_
  refine Wc.seq ?_
  refine Wc.region [] [] [1, 4, 5] [1] [] ⟨[(1, (.ptr 1 0, [])), (4, (.v (.int .i64 c53_.gKind), [])), (5, (.v (.bool (c53_.gKind == 1)), []))], [(1, .cells [.int .i64 c53_.gKind, .str c53_.gName, .int .i64 c53_.gNum, .sl (List.map GTerm.c c53_.gKids)] [])], []⟩ _ (by kernel_rfl) .nil ?_
  rcases oif h with ⟨h55, h⟩ | ⟨h55, h⟩
  · refine Wc.condT h55 (by kernel_rfl) ?_
    refine Wc.seq ?_
    obtain ⟨d54_, h56, h⟩ := obind h
    rcases oif h with ⟨h57, h⟩ | ⟨h57, h⟩
    · rcases oif h with ⟨h58, h⟩ | ⟨h58, h⟩
      · refine Wc.region [{}, {}, { r := some (.v (.bool d54_) []) }, { re := some (.bool true) }, {}, {}, {}, {}, { re := some (.bool true) }, {}, {}, { v := some (.int .i64 (c53_.gKids.length : Int)) }] [] [2] [] [] ⟨[(2, (.v (.bool ((c53_.gKids.length : Int) == 0)), []))], [], []⟩ _ (by kernel_rfl) (.cons (cspec_l01In h56) (.cons (congrArg AV.bool h57) (.cons (congrArg AV.bool h58) (.cons (len_obl GTerm.c c53_.gKids) .nil)))) ?_
        refine Wc.ret ?_
        obtain rfl := Option.some.inj h
        exact ⟨.inl rfl, by kernel_rfl, by kernel_rfl⟩
      · refine Wc.region [{}, {}, { r := some (.v (.bool d54_) []) }, { re := some (.bool true) }, {}, {}, {}, {}, { re := some (.bool false) }] [] [2] [] [] ⟨[(2, (.v (.bool false), []))], [], []⟩ _ (by kernel_rfl) (.cons (cspec_l01In h56) (.cons (congrArg AV.bool h57) (.cons (congrArg AV.bool h58) .nil))) ?_
        refine Wc.ret ?_
        obtain rfl := Option.some.inj h
        exact ⟨.inl rfl, by kernel_rfl, by kernel_rfl⟩
    · refine Wc.region [{}, {}, { r := some (.v (.bool d54_) []) }, { re := some (.bool false) }] [] [2] [] [] ⟨[(2, (.v (.bool false), []))], [], []⟩ _ (by kernel_rfl) (.cons (cspec_l01In h56) (.cons (congrArg AV.bool h57) .nil)) ?_
      refine Wc.ret ?_
      obtain rfl := Option.some.inj h
      exact ⟨.inl rfl, by kernel_rfl, by kernel_rfl⟩
  · refine Wc.condF h55 (by kernel_rfl) ?_
    refine Wc.seq ?_
    refine Wc.region [] [] [1, 4, 21] [1] [] ⟨[(1, (.ptr 1 0, [])), (4, (.v (.int .i64 c53_.gKind), [])), (21, (.v (.bool (c53_.gKind == 2)), []))], [(1, .cells [.int .i64 c53_.gKind, .str c53_.gName, .int .i64 c53_.gNum, .sl (List.map GTerm.c c53_.gKids)] [])], []⟩ _ (by kernel_rfl) .nil ?_
    rcases oif h with ⟨h59, h⟩ | ⟨h59, h⟩
    · refine Wc.condT h59 (by kernel_rfl) ?_
      refine Wc.seq ?_
      obtain ⟨d55_, h60, h⟩ := obind h
      rcases oif h with ⟨h61, h⟩ | ⟨h61, h⟩
      · rcases oif h with ⟨h62, h⟩ | ⟨h62, h⟩
        · refine Wc.region [{}, {}, { r := some (.v (.bool d55_) []) }, { re := some (.bool true) }, {}, {}, {}, {}, { re := some (.bool true) }, {}, {}, { v := some (.int .i64 (c53_.gKids.length : Int)) }] [] [2] [] [] ⟨[(2, (.v (.bool ((c53_.gKids.length : Int) == 0)), []))], [], []⟩ _ (by kernel_rfl) (.cons (cspec_l03Name h60) (.cons (congrArg AV.bool h61) (.cons (congrArg AV.bool h62) (.cons (len_obl GTerm.c c53_.gKids) .nil)))) ?_
          refine Wc.ret ?_
          obtain rfl := Option.some.inj h
          exact ⟨.inl rfl, by kernel_rfl, by kernel_rfl⟩
        · refine Wc.region [{}, {}, { r := some (.v (.bool d55_) []) }, { re := some (.bool true) }, {}, {}, {}, {}, { re := some (.bool false) }] [] [2] [] [] ⟨[(2, (.v (.bool false), []))], [], []⟩ _ (by kernel_rfl) (.cons (cspec_l03Name h60) (.cons (congrArg AV.bool h61) (.cons (congrArg AV.bool h62) .nil))) ?_
          refine Wc.ret ?_
          obtain rfl := Option.some.inj h
          exact ⟨.inl rfl, by kernel_rfl, by kernel_rfl⟩
      · refine Wc.region [{}, {}, { r := some (.v (.bool d55_) []) }, { re := some (.bool false) }] [] [2] [] [] ⟨[(2, (.v (.bool false), []))], [], []⟩ _ (by kernel_rfl) (.cons (cspec_l03Name h60) (.cons (congrArg AV.bool h61) .nil)) ?_
        refine Wc.ret ?_
        obtain rfl := Option.some.inj h
        exact ⟨.inl rfl, by kernel_rfl, by kernel_rfl⟩
    · refine Wc.condF h59 (by kernel_rfl) ?_
      refine Wc.seq ?_
      refine Wc.region [] [] [1, 4, 37] [1] [] ⟨[(1, (.ptr 1 0, [])), (4, (.v (.int .i64 c53_.gKind), [])), (37, (.v (.bool (c53_.gKind == 3)), []))], [(1, .cells [.int .i64 c53_.gKind, .str c53_.gName, .int .i64 c53_.gNum, .sl (List.map GTerm.c c53_.gKids)] [])], []⟩ _ (by kernel_rfl) .nil ?_
      rcases oif h with ⟨h63, h⟩ | ⟨h63, h⟩
      · refine Wc.condT h63 (by kernel_rfl) ?_
        refine Wc.seq ?_
        obtain ⟨d56_, h64, h⟩ := obind h
        rcases oif h with ⟨h65, h⟩ | ⟨h65, h⟩
        · rcases oif h with ⟨h66, h⟩ | ⟨h66, h⟩
          · refine Wc.region [{}, {}, { r := some (.v (.bool d56_) []) }, { re := some (.bool true) }, {}, {}, {}, {}, { re := some (.bool true) }, {}, {}, { v := some (.int .i64 (c53_.gKids.length : Int)) }] [] [2] [] [] ⟨[(2, (.v (.bool ((c53_.gKids.length : Int) == 0)), []))], [], []⟩ _ (by kernel_rfl) (.cons (cspec_l01In h64) (.cons (congrArg AV.bool h65) (.cons (congrArg AV.bool h66) (.cons (len_obl GTerm.c c53_.gKids) .nil)))) ?_
            refine Wc.ret ?_
            obtain rfl := Option.some.inj h
            exact ⟨.inl rfl, by kernel_rfl, by kernel_rfl⟩
          · refine Wc.region [{}, {}, { r := some (.v (.bool d56_) []) }, { re := some (.bool true) }, {}, {}, {}, {}, { re := some (.bool false) }] [] [2] [] [] ⟨[(2, (.v (.bool false), []))], [], []⟩ _ (by kernel_rfl) (.cons (cspec_l01In h64) (.cons (congrArg AV.bool h65) (.cons (congrArg AV.bool h66) .nil))) ?_
            refine Wc.ret ?_
            obtain rfl := Option.some.inj h
            exact ⟨.inl rfl, by kernel_rfl, by kernel_rfl⟩
        · refine Wc.region [{}, {}, { r := some (.v (.bool d56_) []) }, { re := some (.bool false) }] [] [2] [] [] ⟨[(2, (.v (.bool false), []))], [], []⟩ _ (by kernel_rfl) (.cons (cspec_l01In h64) (.cons (congrArg AV.bool h65) .nil)) ?_
          refine Wc.ret ?_
          obtain rfl := Option.some.inj h
          exact ⟨.inl rfl, by kernel_rfl, by kernel_rfl⟩
      · refine Wc.condF h63 (by kernel_rfl) ?_
        refine Wc.seq ?_
        refine Wc.region [] [] [1, 53] [1] [] ⟨[(1, (.ptr 1 0, [])), (53, (.v (.bool (c53_.gKind == 4)), []))], [(1, .cells [.int .i64 c53_.gKind, .str c53_.gName, .int .i64 c53_.gNum, .sl (List.map GTerm.c c53_.gKids)] [])], []⟩ _ (by kernel_rfl) .nil ?_
        rcases oif h with ⟨h67, h⟩ | ⟨h67, h⟩
        · refine Wc.condT h67 (by kernel_rfl) ?_
          refine Wc.seq ?_
          obtain ⟨d57_, h68, h⟩ := obind h
          rcases oif h with ⟨h69, h⟩ | ⟨h69, h⟩
          · rcases oif h with ⟨h70, h⟩ | ⟨h70, h⟩
            · obtain ⟨d58_, h71, h⟩ := obind h
              refine Wc.region [{}, {}, { r := some (.v (.bool d57_) []) }, { re := some (.bool true) }, {}, {}, {}, {}, { re := some (.bool true) }, {}, {}, { v := some (.int .i64 (c53_.gKids.length : Int)) }, { r := some (.v (.bool d58_) []) }] [] [2] [] [] ⟨[(2, (.v (.bool d58_), []))], [], []⟩ _ (by kernel_rfl) (.cons (cspec_l03Name h68) (.cons (congrArg AV.bool h69) (.cons (congrArg AV.bool h70) (.cons (len_obl GTerm.c c53_.gKids) (.cons (cspec_l01In h71) .nil))))) ?_
              refine Wc.ret ?_
              obtain rfl := Option.some.inj h
              exact ⟨.inl rfl, by kernel_rfl, by kernel_rfl⟩
            · refine Wc.region [{}, {}, { r := some (.v (.bool d57_) []) }, { re := some (.bool true) }, {}, {}, {}, {}, { re := some (.bool false) }] [] [2] [] [] ⟨[(2, (.v (.bool false), []))], [], []⟩ _ (by kernel_rfl) (.cons (cspec_l03Name h68) (.cons (congrArg AV.bool h69) (.cons (congrArg AV.bool h70) .nil))) ?_
              refine Wc.ret ?_
              obtain rfl := Option.some.inj h
              exact ⟨.inl rfl, by kernel_rfl, by kernel_rfl⟩
          · refine Wc.region [{}, {}, { r := some (.v (.bool d57_) []) }, { re := some (.bool false) }] [] [2] [] [] ⟨[(2, (.v (.bool false), []))], [], []⟩ _ (by kernel_rfl) (.cons (cspec_l03Name h68) (.cons (congrArg AV.bool h69) .nil)) ?_
            refine Wc.ret ?_
            obtain rfl := Option.some.inj h
            exact ⟨.inl rfl, by kernel_rfl, by kernel_rfl⟩
        · refine Wc.condF h67 (by kernel_rfl) ?_
          refine Wc.fix (st' := ⟨[], [], []⟩) [] [] [] [] (by kernel_rfl) ?_
          refine Wc.skip ?_
          refine Wc.seq ?_
          refine Wc.region [] [] [2] [] [] ⟨[(2, (.v (.bool false), []))], [], []⟩ _ (by kernel_rfl) .nil ?_
          refine Wc.ret ?_
          obtain rfl := Option.some.inj h
          exact ⟨.inl rfl, by kernel_rfl, by kernel_rfl⟩

def pspec_l03Right_L1 (k : Nat) (rspec_l03Right : GTerm → Int → Option Bool) (c59_ : GTerm) (b60_ : Int) : Nat → Int → Option (Out Bool Unit)
  | 0, _ => none
  | m + 1, b62_ =>
    if (decide (b62_ < (c59_.gKids.length : Int))) = true then
      (at' c59_.gKids b62_).bind fun c63_ =>
      (rspec_l03Right c63_ (wr.i64 (b60_ + 1))).bind fun d64_ =>
      if (!d64_) = true then
        some (.ret false)
      else
        pspec_l03Right_L1 k rspec_l03Right c59_ b60_ m (wr.i64 (b62_ + 1))
    else
      some (.done ())
mutual
/-- spec.l03Right -/
def pspec_l03Right : Nat → GTerm → Int → Option Bool
  | 0, _, _ => none
  | k + 1, c59_, b60_ =>
    if (decide (b60_ > 40)) = true then
      some false
    else
      (pspec_l03One k c59_).bind fun d61_ =>
      if (!d61_) = true then
        some false
      else
        (pspec_l03Right_L1 k (pspec_l03Right k) c59_ b60_ k 0).bind fun out1 => match out1 with
        | .ret r => some r
        | .done () =>
          some true
end
theorem all_pspec_l03Right : ∀ k : Nat, (∀ {c59_ : GTerm} {b60_ : Int} {r : Bool}, pspec_l03Right k c59_ b60_ = some r → FnO Try.prog 113 [.v (.agg [.int .i64 c59_.gKind, .str c59_.gName, .int .i64 c59_.gNum, .sl (List.map GTerm.c c59_.gKids)]) [], .v (.int .i64 b60_) []] (.v (.bool r) []) []) := by
  intro k
  induction k with
  | zero =>
    · intro c59_ b60_ r h
      exact (onone (by rw [pspec_l03Right] at h; exact h)).elim
  | succ k ih =>
    have ih_pspec_l03Right := @ih
    · intro c59_ b60_ r h
      rw [pspec_l03Right] at h
      refine FnO.of Try.func113 (rfl : Try.f113.body = some _) (Nat.le_of_ble_eq_true (by kernel_rfl)) (Nat.le_of_ble_eq_true (by kernel_rfl)) ?_
      intro w0 X0 Fin pv0 pb
      refine Wc.seq ?_
      refine Wc.region [] [] [1, 2] [2] [] ⟨[(1, (.v (.int .i64 b60_), [])), (2, (.ptr 2 0, []))], [(2, .cells [.int .i64 c59_.gKind, .str c59_.gName, .int .i64 c59_.gNum, .sl (List.map GTerm.c c59_.gKids)] [])], []⟩ _ (by kernel_rfl) .nil ?_
      refine Wc.seq ?_
      refine Wc.seq ?_
      rcases oif h with ⟨h72, h⟩ | ⟨h72, h⟩
      · refine Wc.region [{}, {}, { re := some (.bool true) }] [] [1, 2, 12] [2] [] ⟨[(1, (.v (.int .i64 b60_), [])), (2, (.ptr 2 0, [])), (12, (.v (.bool true), []))], [(2, .cells [.int .i64 c59_.gKind, .str c59_.gName, .int .i64 c59_.gNum, .sl (List.map GTerm.c c59_.gKids)] [])], []⟩ _ (by kernel_rfl) (.cons (congrArg AV.bool h72) .nil) ?_
        refine Wc.condT rfl (by kernel_rfl) ?_
        refine Wc.seq ?_
        refine Wc.region [] [] [4] [] [] ⟨[(4, (.v (.bool false), []))], [], []⟩ _ (by kernel_rfl) .nil ?_
        refine Wc.ret ?_
        obtain rfl := Option.some.inj h
        exact ⟨.inl rfl, by kernel_rfl, by kernel_rfl⟩
      · obtain ⟨d61_, h73, h⟩ := obind h
        refine Wc.region [{}, {}, { re := some (.bool false) }, {}, { r := some (.v (.bool d61_) []) }] [] [1, 2, 12] [2] [] ⟨[(1, (.v (.int .i64 b60_), [])), (2, (.ptr 2 0, [])), (12, (.v (.bool (!d61_)), []))], [(2, .cells [.int .i64 c59_.gKind, .str c59_.gName, .int .i64 c59_.gNum, .sl (List.map GTerm.c c59_.gKids)] [])], []⟩ _ (by kernel_rfl) (.cons (congrArg AV.bool h72) (.cons (cspec_l03One h73) .nil)) ?_
        rcases oif h with ⟨h74, h⟩ | ⟨h74, h⟩
        · refine Wc.condT h74 (by kernel_rfl) ?_
          refine Wc.seq ?_
          refine Wc.region [] [] [4] [] [] ⟨[(4, (.v (.bool false), []))], [], []⟩ _ (by kernel_rfl) .nil ?_
          refine Wc.ret ?_
          obtain rfl := Option.some.inj h
          exact ⟨.inl rfl, by kernel_rfl, by kernel_rfl⟩
        · refine Wc.condF h74 (by kernel_rfl) ?_
          refine Wc.fix (st' := ⟨[(1, (.v (.int .i64 b60_), [])), (2, (.ptr 2 0, []))], [(2, .cells [.int .i64 c59_.gKind, .str c59_.gName, .int .i64 c59_.gNum, .sl (List.map GTerm.c c59_.gKids)] [])], []⟩) [] [1, 2] [2] [] (by kernel_rfl) ?_
          refine Wc.skip ?_
          refine Wc.seq ?_
          refine Wc.seq ?_
          refine Wc.region [] [] [1, 2, 5] [2] [] ⟨[(1, (.v (.int .i64 b60_), [])), (2, (.ptr 2 0, [])), (5, (.v (.int .i64 0), []))], [(2, .cells [.int .i64 c59_.gKind, .str c59_.gName, .int .i64 c59_.gNum, .sl (List.map GTerm.c c59_.gKids)] [])], []⟩ _ (by kernel_rfl) .nil ?_
          obtain ⟨out1, h75, h⟩ := obind h
          refine Wc.lastJ (fun st => out1 = .done () ∧ st = ⟨[], [], []⟩) ?_ ?_
          · refine Wc.block ?_
            refine Wc.loop (fun m st => ∃ (b62_ : Int), st = ⟨[(1, (.v (.int .i64 b60_), [])), (2, (.ptr 2 0, [])), (5, (.v (.int .i64 b62_), []))], [(2, .cells [.int .i64 c59_.gKind, .str c59_.gName, .int .i64 c59_.gNum, .sl (List.map GTerm.c c59_.gKids)] [])], []⟩ ∧ pspec_l03Right_L1 k (pspec_l03Right k) c59_ b60_ m b62_ = some out1) ?_ k ⟨_, rfl, h75⟩
            rintro m st ⟨b62_, rfl, h75⟩
            cases m with
            | zero => exact (onone h75).elim
            | succ m =>
              refine Wc.seq ?_
              refine Wc.seq ?_
              refine Wc.region [{}, {}, {}, { v := some (.int .i64 (c59_.gKids.length : Int)) }] [] [1, 2, 5, 17] [2] [] ⟨[(1, (.v (.int .i64 b60_), [])), (2, (.ptr 2 0, [])), (5, (.v (.int .i64 b62_), [])), (17, (.v (.bool (decide (b62_ < (c59_.gKids.length : Int)))), []))], [(2, .cells [.int .i64 c59_.gKind, .str c59_.gName, .int .i64 c59_.gNum, .sl (List.map GTerm.c c59_.gKids)] [])], []⟩ _ (by kernel_rfl) (.cons (len_obl GTerm.c c59_.gKids) .nil) ?_
              rcases oif h75 with ⟨h76, h75⟩ | ⟨h76, h75⟩
              · refine Wc.condT h76 (by kernel_rfl) ?_
                refine Wc.fix (st' := ⟨[(1, (.v (.int .i64 b60_), [])), (2, (.ptr 2 0, [])), (5, (.v (.int .i64 b62_), []))], [(2, .cells [.int .i64 c59_.gKind, .str c59_.gName, .int .i64 c59_.gNum, .sl (List.map GTerm.c c59_.gKids)] [])], []⟩) [] [1, 2, 5] [2] [] (by kernel_rfl) ?_
                refine Wc.skip ?_
                refine Wc.seq ?_
                refine Wc.block ?_
                refine Wc.seq ?_
                obtain ⟨c63_, h77, h75⟩ := obind h75
                obtain ⟨d64_, h78, h75⟩ := obind h75
                refine Wc.region [{}, {}, {}, { v := some (.vptr [.int .i64 c63_.gKind, .str c63_.gName, .int .i64 c63_.gNum, .sl (List.map GTerm.c c63_.gKids)]) }, {}, {}, {}, { r := some (.v (.bool d64_) []) }] [] [1, 2, 5, 28] [2] [] ⟨[(1, (.v (.int .i64 b60_), [])), (2, (.ptr 2 0, [])), (5, (.v (.int .i64 b62_), [])), (28, (.v (.bool (!d64_)), []))], [(2, .cells [.int .i64 c59_.gKind, .str c59_.gName, .int .i64 c59_.gNum, .sl (List.map GTerm.c c59_.gKids)] [])], []⟩ _ (by kernel_rfl) (.cons (at_obl (c := GTerm.c) (GTerm.c_eq c63_) GTerm.c_len h77) (.cons (len_ok 4 [.int .i64 c63_.gKind, .str c63_.gName, .int .i64 c63_.gNum, .sl (List.map GTerm.c c63_.gKids)]) (.cons (ih_pspec_l03Right h78) .nil))) ?_
                rcases oif h75 with ⟨h79, h75⟩ | ⟨h79, h75⟩
                · refine Wc.condT h79 (by kernel_rfl) ?_
                  refine Wc.seq ?_
                  refine Wc.region [] [] [4] [] [] ⟨[(4, (.v (.bool false), []))], [], []⟩ _ (by kernel_rfl) .nil ?_
                  refine Wc.ret ?_
                  obtain rfl := Option.some.inj h75
                  obtain rfl := Option.some.inj h
                  exact ⟨.inl rfl, by kernel_rfl, by kernel_rfl⟩
                · refine Wc.condF h79 (by kernel_rfl) ?_
                  refine Wc.fix (st' := ⟨[(1, (.v (.int .i64 b60_), [])), (2, (.ptr 2 0, [])), (5, (.v (.int .i64 b62_), []))], [(2, .cells [.int .i64 c59_.gKind, .str c59_.gName, .int .i64 c59_.gNum, .sl (List.map GTerm.c c59_.gKids)] [])], []⟩) [] [1, 2, 5] [2] [] (by kernel_rfl) ?_
                  refine Wc.skip ?_
                  refine Wc.region [] [] [1, 2, 5] [2] [] ⟨[(1, (.v (.int .i64 b60_), [])), (2, (.ptr 2 0, [])), (5, (.v (.int .i64 (wr.i64 (b62_ + 1))), []))], [(2, .cells [.int .i64 c59_.gKind, .str c59_.gName, .int .i64 c59_.gNum, .sl (List.map GTerm.c c59_.gKids)] [])], []⟩ _ (by kernel_rfl) .nil ?_
                  exact ⟨_, Nat.lt_succ_self _, _, rfl, h75⟩
              · refine Wc.condF h76 (by kernel_rfl) ?_
                refine Wc.fix (st' := ⟨[], [], []⟩) [] [] [] [] (by kernel_rfl) ?_
                refine Wc.exit ?_
                obtain rfl := Option.some.inj h75
                exact ⟨rfl, rfl⟩
          · rintro st ⟨rfl, rfl⟩
            refine Wc.seq ?_
            refine Wc.region [] [] [4] [] [] ⟨[(4, (.v (.bool true), []))], [], []⟩ _ (by kernel_rfl) .nil ?_
            refine Wc.ret ?_
            obtain rfl := Option.some.inj h
            exact ⟨.inl rfl, by kernel_rfl, by kernel_rfl⟩
theorem cspec_l03Right {k : Nat} {c59_ : GTerm} {b60_ : Int} {r : Bool} (h : pspec_l03Right k c59_ b60_ = some r) : FnO Try.prog 113 [.v (.agg [.int .i64 c59_.gKind, .str c59_.gName, .int .i64 c59_.gNum, .sl (List.map GTerm.c c59_.gKids)]) [], .v (.int .i64 b60_) []] (.v (.bool r) []) [] := (all_pspec_l03Right k) h

/-- spec.TermOk -/
def pspec_TermOk (k : Nat) (c65_ : GTerm) : Option Bool :=
  (pspec_l03Count k c65_ 400).bind fun b66_ =>
  if (decide (b66_ ≥ 0)) = true then
    (pspec_l03Right k c65_ 1).bind fun d67_ =>
    some d67_
  else
    some false
theorem cspec_TermOk {k : Nat} {c65_ : GTerm} {r : Bool} (h : pspec_TermOk k c65_ = some r) : FnO Try.prog 99 [.v (.agg [.int .i64 c65_.gKind, .str c65_.gName, .int .i64 c65_.gNum, .sl (List.map GTerm.c c65_.gKids)]) []] (.v (.bool r) []) [] := by
  refine FnO.of Try.func99 (rfl : Try.f99.body = some _) (Nat.le_of_ble_eq_true (by kernel_rfl)) (Nat.le_of_ble_eq_true (by kernel_rfl)) ?_
  intro w0 X0 Fin pv0 pb
  unfold pspec_TermOk at h
  refine Wc.seq ?_
  refine Wc.region [] [] [1] [1] [] ⟨[(1, (.ptr 1 0, []))], [(1, .cells [.int .i64 c65_.gKind, .str c65_.gName, .int .i64 c65_.gNum, .sl (List.map GTerm.c c65_.gKids)] [])], []⟩ _ (by kernel_rfl) .nil ?_
  refine Wc.seq ?_
  obtain ⟨b66_, h80, h⟩ := obind h
  rcases oif h with ⟨h81, h⟩ | ⟨h81, h⟩
  · obtain ⟨d67_, h82, h⟩ := obind h
    refine Wc.region [{}, { r := some (.v (.int .i64 b66_) []) }, {}, { re := some (.bool true) }, {}, { r := some (.v (.bool d67_) []) }] [] [2] [] [] ⟨[(2, (.v (.bool d67_), []))], [], []⟩ _ (by kernel_rfl) (.cons (cspec_l03Count h80) (.cons (congrArg AV.bool h81) (.cons (cspec_l03Right h82) .nil))) ?_
    refine Wc.ret ?_
    obtain rfl := Option.some.inj h
    exact ⟨.inl rfl, by kernel_rfl, by kernel_rfl⟩
  · refine Wc.region [{}, { r := some (.v (.int .i64 b66_) []) }, {}, { re := some (.bool false) }] [] [2] [] [] ⟨[(2, (.v (.bool false), []))], [], []⟩ _ (by kernel_rfl) (.cons (cspec_l03Count h80) (.cons (congrArg AV.bool h81) .nil)) ?_
    refine Wc.ret ?_
    obtain rfl := Option.some.inj h
    exact ⟨.inl rfl, by kernel_rfl, by kernel_rfl⟩

/-- spec.l03Is -/
def pspec_l03Is (k : Nat) (c68_ : GTerm) (e69_ : ByteArray) (b70_ : Int) : Option Bool :=
  if (c68_.gKind == 4) = true then
    if (sEq c68_.gName e69_) = true then
      some ((c68_.gKids.length : Int) == b70_)
    else
      some false
  else
    some false
theorem cspec_l03Is {k : Nat} {c68_ : GTerm} {e69_ : ByteArray} {b70_ : Int} {r : Bool} (h : pspec_l03Is k c68_ e69_ b70_ = some r) : FnO Try.prog 100 [.v (.agg [.int .i64 c68_.gKind, .str c68_.gName, .int .i64 c68_.gNum, .sl (List.map GTerm.c c68_.gKids)]) [], .v (.str e69_) [], .v (.int .i64 b70_) []] (.v (.bool r) []) [] := by
  refine FnO.of Try.func100 (rfl : Try.f100.body = some _) (Nat.le_of_ble_eq_true (by kernel_rfl)) (Nat.le_of_ble_eq_true (by kernel_rfl)) ?_
  intro w0 X0 Fin pv0 pb
  unfold pspec_l03Is at h
  refine Wc.seq ?_
  refine Wc.region [] [] [1, 2, 3] [3] [] ⟨[(1, (.v (.str e69_), [])), (2, (.v (.int .i64 b70_), [])), (3, (.ptr 3 0, []))], [(3, .cells [.int .i64 c68_.gKind, .str c68_.gName, .int .i64 c68_.gNum, .sl (List.map GTerm.c c68_.gKids)] [])], []⟩ _ (by kernel_rfl) .nil ?_
  refine Wc.seq ?_
  rcases oif h with ⟨h83, h⟩ | ⟨h83, h⟩
  · rcases oif h with ⟨h84, h⟩ | ⟨h84, h⟩
    · refine Wc.region [{}, {}, {}, { re := some (.bool true) }, {}, {}, {}, {}, {}, { re := some (.bool true) }, {}, {}, { v := some (.int .i64 (c68_.gKids.length : Int)) }] [] [6] [] [] ⟨[(6, (.v (.bool ((c68_.gKids.length : Int) == b70_)), []))], [], []⟩ _ (by kernel_rfl) (.cons (congrArg AV.bool h83) (.cons (congrArg AV.bool h84) (.cons (len_obl GTerm.c c68_.gKids) .nil))) ?_
      refine Wc.ret ?_
      obtain rfl := Option.some.inj h
      exact ⟨.inl rfl, by kernel_rfl, by kernel_rfl⟩
    · refine Wc.region [{}, {}, {}, { re := some (.bool true) }, {}, {}, {}, {}, {}, { re := some (.bool false) }] [] [6] [] [] ⟨[(6, (.v (.bool false), []))], [], []⟩ _ (by kernel_rfl) (.cons (congrArg AV.bool h83) (.cons (congrArg AV.bool h84) .nil)) ?_
      refine Wc.ret ?_
      obtain rfl := Option.some.inj h
      exact ⟨.inl rfl, by kernel_rfl, by kernel_rfl⟩
  · refine Wc.region [{}, {}, {}, { re := some (.bool false) }] [] [6] [] [] ⟨[(6, (.v (.bool false), []))], [], []⟩ _ (by kernel_rfl) (.cons (congrArg AV.bool h83) .nil) ?_
    refine Wc.ret ?_
    obtain rfl := Option.some.inj h
    exact ⟨.inl rfl, by kernel_rfl, by kernel_rfl⟩

def pspec_l21ItemsOfRaw_L1 (k : Nat) : Nat → (List GTerm) → GTerm → Option (Out ((List GTerm) × Bool) ((List GTerm) × GTerm))
  | 0, _, _ => none
  | m + 1, a82_, c83_ =>
    (pspec_l03Is k c83_ (bs [46]) 2).bind fun d86_ =>
    if d86_ = true then
      (at' c83_.gKids 0).bind fun c87_ =>
      if a82_.length + [c87_].length ≤ 1073741824 then
        (at' c83_.gKids 1).bind fun c88_ =>
        pspec_l21ItemsOfRaw_L1 k m (a82_ ++ [c87_]) c88_
      else none
    else
      some (.done (a82_, c83_))
/-- spec.l21ItemsOfRaw -/
def pspec_l21ItemsOfRaw (k : Nat) (c80_ : GTerm) : Option ((List GTerm) × Bool) :=
  (pspec_TermOk k c80_).bind fun d81_ =>
  if (!d81_) = true then
    some ([], false)
  else
    (pspec_l21ItemsOfRaw_L1 k k [] c80_).bind fun out1 => match out1 with
    | .ret r => some r
    | .done (a84_, c85_) =>
      if (c85_.gKind != 2) = true then
        some ([], false)
      else
        if (!(sEq c85_.gName (bs [91, 93]))) = true then
          some ([], false)
        else
          some (a84_, true)
theorem cspec_l21ItemsOfRaw {k : Nat} {c80_ : GTerm} {r : (List GTerm) × Bool} (h : pspec_l21ItemsOfRaw k c80_ = some r) : FnO Try.prog 74 [.v (.agg [.int .i64 c80_.gKind, .str c80_.gName, .int .i64 c80_.gNum, .sl (List.map GTerm.c c80_.gKids)]) []] (.v (.tup [.sl (List.map GTerm.c r.1), .bool r.2]) [(0, .app 40)]) [] := by
  refine FnO.of Try.func74 (rfl : Try.f74.body = some _) (Nat.le_of_ble_eq_true (by kernel_rfl)) (Nat.le_of_ble_eq_true (by kernel_rfl)) ?_
  intro w0 X0 Fin pv0 pb
  unfold pspec_l21ItemsOfRaw at h
  refine Wc.seq ?_
  refine Wc.region [] [] [1] [1] [] ⟨[(1, (.ptr 1 0, []))], [(1, .cells [.int .i64 c80_.gKind, .str c80_.gName, .int .i64 c80_.gNum, .sl (List.map GTerm.c c80_.gKids)] [])], []⟩ _ (by kernel_rfl) .nil ?_
  refine Wc.seq ?_
  refine Wc.region [{ c := some (List.map GTerm.c []) }, { tk := [5] }] [] [1, 4] [1] [] ⟨[(1, (.ptr 1 0, [])), (4, (.v (.sl (List.map GTerm.c [])), [(0, .app 40)]))], [(1, .cells [.int .i64 c80_.gKind, .str c80_.gName, .int .i64 c80_.gNum, .sl (List.map GTerm.c c80_.gKids)] [])], []⟩ _ (by kernel_rfl) (.cons (cl_nil GTerm.c) .nil) ?_
  refine Wc.seq ?_
  refine Wc.seq ?_
  obtain ⟨d81_, h95, h⟩ := obind h
  refine Wc.region [{}, { r := some (.v (.bool d81_) []) }] [] [1, 4, 8] [1] [] ⟨[(1, (.ptr 1 0, [])), (4, (.v (.sl (List.map GTerm.c [])), [(0, .app 40)])), (8, (.v (.bool (!d81_)), []))], [(1, .cells [.int .i64 c80_.gKind, .str c80_.gName, .int .i64 c80_.gNum, .sl (List.map GTerm.c c80_.gKids)] [])], []⟩ _ (by kernel_rfl) (.cons (cspec_TermOk h95) .nil) ?_
  rcases oif h with ⟨h96, h⟩ | ⟨h96, h⟩
  · refine Wc.condT h96 (by kernel_rfl) ?_
    refine Wc.seq ?_
    refine Wc.region [{ tk := [4] }, { tk := [9] }] [] [2, 3] [] [] ⟨[(2, (.v (.sl (List.map GTerm.c [])), [(0, .app 40)])), (3, (.v (.bool false), []))], [], []⟩ _ (by kernel_rfl) .nil ?_
    refine Wc.ret ?_
    obtain rfl := Option.some.inj h
    exact ⟨.inl rfl, by kernel_rfl, by kernel_rfl⟩
  · refine Wc.condF h96 (by kernel_rfl) ?_
    refine Wc.fix (st' := ⟨[(1, (.ptr 1 0, [])), (4, (.v (.sl (List.map GTerm.c [])), [(0, .app 40)]))], [(1, .cells [.int .i64 c80_.gKind, .str c80_.gName, .int .i64 c80_.gNum, .sl (List.map GTerm.c c80_.gKids)] [])], []⟩) [] [1, 4] [1] [] (by kernel_rfl) ?_
    refine Wc.skip ?_
    obtain ⟨out1, h97, h⟩ := obind h
    refine Wc.seqJ (fun st => ∃ (a84_ : List GTerm) (c85_ : GTerm), out1 = .done (a84_, c85_) ∧ st = ⟨[(1, (.ptr 1 0, [])), (4, (.v (.sl (List.map GTerm.c a84_)), [(0, .app 40)]))], [(1, .cells [.int .i64 c85_.gKind, .str c85_.gName, .int .i64 c85_.gNum, .sl (List.map GTerm.c c85_.gKids)] [])], []⟩) ?_ ?_
    · refine Wc.block ?_
      refine Wc.loop (fun m st => ∃ (a82_ : List GTerm) (c83_ : GTerm), st = ⟨[(1, (.ptr 1 0, [])), (4, (.v (.sl (List.map GTerm.c a82_)), [(0, .app 40)]))], [(1, .cells [.int .i64 c83_.gKind, .str c83_.gName, .int .i64 c83_.gNum, .sl (List.map GTerm.c c83_.gKids)] [])], []⟩ ∧ pspec_l21ItemsOfRaw_L1 k m a82_ c83_ = some out1) ?_ k ⟨_, _, rfl, h97⟩
      rintro m st ⟨a82_, c83_, rfl, h97⟩
      cases m with
      | zero => exact (onone h97).elim
      | succ m =>
        refine Wc.seq ?_
        refine Wc.seq ?_
        obtain ⟨d86_, h98, h97⟩ := obind h97
        refine Wc.region [{}, { r := some (.v (.bool d86_) []) }] [] [1, 4, 11] [1] [] ⟨[(1, (.ptr 1 0, [])), (4, (.v (.sl (List.map GTerm.c a82_)), [(0, .app 40)])), (11, (.v (.bool d86_), []))], [(1, .cells [.int .i64 c83_.gKind, .str c83_.gName, .int .i64 c83_.gNum, .sl (List.map GTerm.c c83_.gKids)] [])], []⟩ _ (by kernel_rfl) (.cons (cspec_l03Is h98) .nil) ?_
        rcases oif h97 with ⟨h99, h97⟩ | ⟨h99, h97⟩
        · refine Wc.condT h99 (by kernel_rfl) ?_
          refine Wc.fix (st' := ⟨[(1, (.ptr 1 0, [])), (4, (.v (.sl (List.map GTerm.c a82_)), [(0, .app 40)]))], [(1, .cells [.int .i64 c83_.gKind, .str c83_.gName, .int .i64 c83_.gNum, .sl (List.map GTerm.c c83_.gKids)] [])], []⟩) [] [1, 4] [1] [] (by kernel_rfl) ?_
          refine Wc.skip ?_
          refine Wc.block ?_
          refine Wc.seq ?_
          obtain ⟨c87_, h100, h97⟩ := obind h97
          obtain ⟨h101, h97⟩ := oguard h97
          refine Wc.region [{ tk := [4] }, {}, {}, { v := some (.vptr [.int .i64 c87_.gKind, .str c87_.gName, .int .i64 c87_.gNum, .sl (List.map GTerm.c c87_.gKids)]) }, {}, { c := some (List.map GTerm.c [c87_]) }, { c := some (List.map GTerm.c (a82_ ++ [c87_])), tk := [12] }, { tk := [18] }] [] [1, 4] [1] [] ⟨[(1, (.ptr 1 0, [])), (4, (.v (.sl (List.map GTerm.c (a82_ ++ [c87_]))), [(0, .app 40)]))], [(1, .cells [.int .i64 c83_.gKind, .str c83_.gName, .int .i64 c83_.gNum, .sl (List.map GTerm.c c83_.gKids)] [])], []⟩ _ (by kernel_rfl) (.cons (at_obl (c := GTerm.c) (GTerm.c_eq c87_) GTerm.c_len h100) (.cons (len_ok 4 [.int .i64 c87_.gKind, .str c87_.gName, .int .i64 c87_.gNum, .sl (List.map GTerm.c c87_.gKids)]) (.cons (cl_cons (c := GTerm.c) (x := c87_) (GTerm.c_eq c87_) (cl_nil GTerm.c)) (.cons (app_re2 GTerm.c a82_ [c87_]) (.cons (app_leaf (c := GTerm.c) (ys := [c87_]) GTerm.c_leaf) (.cons (app_obl2 (c := GTerm.c) (xs := a82_) (ys := [c87_]) GTerm.c_len h101) .nil)))))) ?_
          obtain ⟨c88_, h102, h97⟩ := obind h97
          refine Wc.region [{}, {}, { v := some (.vptr [.int .i64 c88_.gKind, .str c88_.gName, .int .i64 c88_.gNum, .sl (List.map GTerm.c c88_.gKids)]) }] [] [1, 4] [1] [] ⟨[(1, (.ptr 1 0, [])), (4, (.v (.sl (List.map GTerm.c (a82_ ++ [c87_]))), [(0, .app 40)]))], [(1, .cells [.int .i64 c88_.gKind, .str c88_.gName, .int .i64 c88_.gNum, .sl (List.map GTerm.c c88_.gKids)] [])], []⟩ _ (by kernel_rfl) (.cons (at_obl (c := GTerm.c) (GTerm.c_eq c88_) GTerm.c_len h102) (.cons (len_ok 4 [.int .i64 c88_.gKind, .str c88_.gName, .int .i64 c88_.gNum, .sl (List.map GTerm.c c88_.gKids)]) .nil)) ?_
          exact ⟨_, Nat.lt_succ_self _, _, _, rfl, h97⟩
        · refine Wc.condF h99 (by kernel_rfl) ?_
          refine Wc.fix (st' := ⟨[(1, (.ptr 1 0, [])), (4, (.v (.sl (List.map GTerm.c a82_)), [(0, .app 40)]))], [(1, .cells [.int .i64 c83_.gKind, .str c83_.gName, .int .i64 c83_.gNum, .sl (List.map GTerm.c c83_.gKids)] [])], []⟩) [] [1, 4] [1] [] (by kernel_rfl) ?_
          refine Wc.exit ?_
          obtain rfl := Option.some.inj h97
          exact ⟨_, _, rfl, rfl⟩
    · rintro st ⟨a84_, c85_, rfl, rfl⟩
      refine Wc.seq ?_
      refine Wc.seq ?_
      rcases oif h with ⟨h103, h⟩ | ⟨h103, h⟩
      · refine Wc.region [{}, {}, {}, { re := some (.bool true) }] [] [4, 30] [] [] ⟨[(4, (.v (.sl (List.map GTerm.c a84_)), [(0, .app 40)])), (30, (.v (.bool true), []))], [], []⟩ _ (by kernel_rfl) (.cons (congrArg AV.bool h103) .nil) ?_
        refine Wc.condT rfl (by kernel_rfl) ?_
        refine Wc.seq ?_
        refine Wc.region [{ c := some (List.map GTerm.c []) }, { tk := [31] }] [] [2, 3] [] [] ⟨[(2, (.v (.sl (List.map GTerm.c [])), [(0, .app 40)])), (3, (.v (.bool false), []))], [], []⟩ _ (by kernel_rfl) (.cons (cl_nil GTerm.c) .nil) ?_
        refine Wc.ret ?_
        obtain rfl := Option.some.inj h
        exact ⟨.inl rfl, by kernel_rfl, by kernel_rfl⟩
      · refine Wc.region [{}, {}, {}, { re := some (.bool false) }] [] [4, 30] [] [] ⟨[(4, (.v (.sl (List.map GTerm.c a84_)), [(0, .app 40)])), (30, (.v (.bool (!(sEq c85_.gName (bs [91, 93])))), []))], [], []⟩ _ (by kernel_rfl) (.cons (congrArg AV.bool h103) .nil) ?_
        rcases oif h with ⟨h104, h⟩ | ⟨h104, h⟩
        · refine Wc.condT h104 (by kernel_rfl) ?_
          refine Wc.seq ?_
          refine Wc.region [{ c := some (List.map GTerm.c []) }, { tk := [31] }] [] [2, 3] [] [] ⟨[(2, (.v (.sl (List.map GTerm.c [])), [(0, .app 40)])), (3, (.v (.bool false), []))], [], []⟩ _ (by kernel_rfl) (.cons (cl_nil GTerm.c) .nil) ?_
          refine Wc.ret ?_
          obtain rfl := Option.some.inj h
          exact ⟨.inl rfl, by kernel_rfl, by kernel_rfl⟩
        · refine Wc.condF h104 (by kernel_rfl) ?_
          refine Wc.fix (st' := ⟨[(4, (.v (.sl (List.map GTerm.c a84_)), [(0, .app 40)]))], [], []⟩) [] [4] [] [] (by kernel_rfl) ?_
          refine Wc.skip ?_
          refine Wc.seq ?_
          refine Wc.region [{ tk := [4] }, { tk := [32] }] [] [2, 3] [] [] ⟨[(2, (.v (.sl (List.map GTerm.c a84_)), [(0, .app 40)])), (3, (.v (.bool true), []))], [], []⟩ _ (by kernel_rfl) .nil ?_
          refine Wc.ret ?_
          obtain rfl := Option.some.inj h
          exact ⟨.inl rfl, by kernel_rfl, by kernel_rfl⟩

def pspec_l34Terms_L1 (k : Nat) (rspec_l34Term : GTerm → Option GTerm) (rspec_l34Terms : (List GTerm) → Option (List GTerm)) (a107_ : List GTerm) : Nat → (List GTerm) → Int → Option (Out (List GTerm) (List GTerm))
  | 0, _, _ => none
  | m + 1, a108_, b109_ =>
    if (decide (b109_ < (a107_.length : Int))) = true then
      (at' a107_ b109_).bind fun c111_ =>
      (rspec_l34Term c111_).bind fun c112_ =>
      if a108_.length + [c112_].length ≤ 1073741824 then
        pspec_l34Terms_L1 k rspec_l34Term rspec_l34Terms a107_ m (a108_ ++ [c112_]) (wr.i64 (b109_ + 1))
      else none
    else
      some (.done a108_)
mutual
/-- spec.l34Term -/
def pspec_l34Term : Nat → GTerm → Option GTerm
  | 0, _ => none
  | k + 1, c105_ =>
    (pspec_l34Terms k c105_.gKids).bind fun g106_ =>
    some (GTerm.mk c105_.gKind c105_.gName c105_.gNum g106_)
/-- spec.l34Terms -/
def pspec_l34Terms : Nat → (List GTerm) → Option (List GTerm)
  | 0, _ => none
  | k + 1, a107_ =>
    (pspec_l34Terms_L1 k (pspec_l34Term k) (pspec_l34Terms k) a107_ k [] 0).bind fun out1 => match out1 with
    | .ret r => some r
    | .done a110_ =>
      some a110_
end
theorem all_pspec_l34Term : ∀ k : Nat, (∀ {c105_ : GTerm} {r : GTerm}, pspec_l34Term k c105_ = some r → FnO Try.prog 82 [.v (.agg [.int .i64 c105_.gKind, .str c105_.gName, .int .i64 c105_.gNum, .sl (List.map GTerm.c c105_.gKids)]) []] (.v (.agg [.int .i64 r.gKind, .str r.gName, .int .i64 r.gNum, .sl (List.map GTerm.c r.gKids)]) [(3, .app 40)]) []) ∧
    (∀ {a107_ : List GTerm} {r : (List GTerm)}, pspec_l34Terms k a107_ = some r → FnO Try.prog 75 [.v (.sl (List.map GTerm.c a107_)) []] (.v (.sl (List.map GTerm.c r)) [(0, .app 40)]) []) := by
  intro k
  induction k with
  | zero =>
    refine ⟨?_, ?_⟩
    · intro c105_ r h
      exact (onone (by rw [pspec_l34Term] at h; exact h)).elim
    · intro a107_ r h
      exact (onone (by rw [pspec_l34Terms] at h; exact h)).elim
  | succ k ih =>
    obtain ⟨ih_pspec_l34Term, ih_pspec_l34Terms⟩ := ih
    refine ⟨?_, ?_⟩
    · intro c105_ r h
      rw [pspec_l34Term] at h
      refine FnO.of Try.func82 (rfl : Try.f82.body = some _) (Nat.le_of_ble_eq_true (by kernel_rfl)) (Nat.le_of_ble_eq_true (by kernel_rfl)) ?_
      intro w0 X0 Fin pv0 pb
      refine Wc.seq ?_
      refine Wc.region [] [] [1, 2] [1, 2] [] ⟨[(1, (.ptr 1 0, [])), (2, (.ptr 2 0, []))], [(1, .cells [.int .i64 c105_.gKind, .str c105_.gName, .int .i64 c105_.gNum, .sl (List.map GTerm.c c105_.gKids)] []), (2, .cells [.int .i64 0, .str (bs []), .int .i64 0, .sl (List.map GTerm.c [])] [(3, .app 40)])], []⟩ _ (by kernel_rfl) .nil ?_
      refine Wc.seq ?_
      obtain ⟨g106_, h117, h⟩ := obind h
      refine Wc.region [{}, {}, { r := some (.v (.sl (List.map GTerm.c g106_)) [(0, .app 40)]) }, {}, { tk := [5] }] [] [1, 2] [1, 2] [] ⟨[(1, (.ptr 1 0, [])), (2, (.ptr 2 0, []))], [(1, .cells [.int .i64 c105_.gKind, .str c105_.gName, .int .i64 c105_.gNum, .sl (List.map GTerm.c g106_)] [(3, .app 40)]), (2, .cells [.int .i64 0, .str (bs []), .int .i64 0, .sl (List.map GTerm.c [])] [(3, .app 40)])], []⟩ _ (by kernel_rfl) (.cons (ih_pspec_l34Terms h117) .nil) ?_
      refine Wc.seq ?_
      refine Wc.region [{ md := 1 }, { tk := [7] }] [] [2] [2] [] ⟨[(2, (.ptr 2 0, []))], [(2, .cells [.int .i64 c105_.gKind, .str c105_.gName, .int .i64 c105_.gNum, .sl (List.map GTerm.c g106_)] [(3, .app 40)])], []⟩ _ (by kernel_rfl) .nil ?_
      refine Wc.ret ?_
      obtain rfl := Option.some.inj h
      exact ⟨.inl rfl, by kernel_rfl, by kernel_rfl⟩
    · intro a107_ r h
      rw [pspec_l34Terms] at h
      refine FnO.of Try.func75 (rfl : Try.f75.body = some _) (Nat.le_of_ble_eq_true (by kernel_rfl)) (Nat.le_of_ble_eq_true (by kernel_rfl)) ?_
      intro w0 X0 Fin pv0 pb
      refine Wc.seq ?_
      refine Wc.region [] [] [0] [] [] ⟨[(0, (.v (.sl (List.map GTerm.c a107_)), []))], [], []⟩ _ (by kernel_rfl) .nil ?_
      refine Wc.seq ?_
      refine Wc.region [{ c := some (List.map GTerm.c []) }, { tk := [5] }] [] [0, 3] [] [] ⟨[(0, (.v (.sl (List.map GTerm.c a107_)), [])), (3, (.v (.sl (List.map GTerm.c [])), [(0, .app 40)]))], [], []⟩ _ (by kernel_rfl) (.cons (cl_nil GTerm.c) .nil) ?_
      refine Wc.seq ?_
      refine Wc.seq ?_
      refine Wc.region [] [] [0, 3, 4] [] [] ⟨[(0, (.v (.sl (List.map GTerm.c a107_)), [])), (3, (.v (.sl (List.map GTerm.c [])), [(0, .app 40)])), (4, (.v (.int .i64 0), []))], [], []⟩ _ (by kernel_rfl) .nil ?_
      obtain ⟨out1, h118, h⟩ := obind h
      refine Wc.lastJ (fun st => ∃ (a110_ : List GTerm), out1 = .done a110_ ∧ st = ⟨[(3, (.v (.sl (List.map GTerm.c a110_)), [(0, .app 40)]))], [], []⟩) ?_ ?_
      · refine Wc.block ?_
        refine Wc.loop (fun m st => ∃ (a108_ : List GTerm) (b109_ : Int), st = ⟨[(0, (.v (.sl (List.map GTerm.c a107_)), [])), (3, (.v (.sl (List.map GTerm.c a108_)), [(0, .app 40)])), (4, (.v (.int .i64 b109_), []))], [], []⟩ ∧ pspec_l34Terms_L1 k (pspec_l34Term k) (pspec_l34Terms k) a107_ m a108_ b109_ = some out1) ?_ k ⟨_, _, rfl, h118⟩
        rintro m st ⟨a108_, b109_, rfl, h118⟩
        cases m with
        | zero => exact (onone h118).elim
        | succ m =>
          refine Wc.seq ?_
          refine Wc.seq ?_
          refine Wc.region [{}, {}, { v := some (.int .i64 (a107_.length : Int)) }] [] [0, 3, 4, 9] [] [] ⟨[(0, (.v (.sl (List.map GTerm.c a107_)), [])), (3, (.v (.sl (List.map GTerm.c a108_)), [(0, .app 40)])), (4, (.v (.int .i64 b109_), [])), (9, (.v (.bool (decide (b109_ < (a107_.length : Int)))), []))], [], []⟩ _ (by kernel_rfl) (.cons (len_obl GTerm.c a107_) .nil) ?_
          rcases oif h118 with ⟨h119, h118⟩ | ⟨h119, h118⟩
          · refine Wc.condT h119 (by kernel_rfl) ?_
            refine Wc.fix (st' := ⟨[(0, (.v (.sl (List.map GTerm.c a107_)), [])), (3, (.v (.sl (List.map GTerm.c a108_)), [(0, .app 40)])), (4, (.v (.int .i64 b109_), []))], [], []⟩) [] [0, 3, 4] [] [] (by kernel_rfl) ?_
            refine Wc.skip ?_
            refine Wc.seq ?_
            refine Wc.block ?_
            obtain ⟨c111_, h120, h118⟩ := obind h118
            obtain ⟨c112_, h121, h118⟩ := obind h118
            obtain ⟨h122, h118⟩ := oguard h118
            refine Wc.region [{ tk := [3] }, {}, {}, { v := some (.vptr [.int .i64 c111_.gKind, .str c111_.gName, .int .i64 c111_.gNum, .sl (List.map GTerm.c c111_.gKids)]) }, {}, { r := some (.v (.agg [.int .i64 c112_.gKind, .str c112_.gName, .int .i64 c112_.gNum, .sl (List.map GTerm.c c112_.gKids)]) [(3, .app 40)]) }, { c := some (List.map GTerm.c [c112_]) }, { c := some (List.map GTerm.c (a108_ ++ [c112_])), tk := [12] }, { tk := [19] }] [] [0, 3, 4] [] [] ⟨[(0, (.v (.sl (List.map GTerm.c a107_)), [])), (3, (.v (.sl (List.map GTerm.c (a108_ ++ [c112_]))), [(0, .app 40)])), (4, (.v (.int .i64 b109_), []))], [], []⟩ _ (by kernel_rfl) (.cons (at_obl (c := GTerm.c) (GTerm.c_eq c111_) GTerm.c_len h120) (.cons (len_ok 4 [.int .i64 c111_.gKind, .str c111_.gName, .int .i64 c111_.gNum, .sl (List.map GTerm.c c111_.gKids)]) (.cons (ih_pspec_l34Term h121) (.cons (cl_cons (c := GTerm.c) (x := c112_) (GTerm.c_eq c112_) (cl_nil GTerm.c)) (.cons (app_re2 GTerm.c a108_ [c112_]) (.cons (app_leaf (c := GTerm.c) (ys := [c112_]) GTerm.c_leaf) (.cons (app_obl2 (c := GTerm.c) (xs := a108_) (ys := [c112_]) GTerm.c_len h122) .nil))))))) ?_
            refine Wc.region [] [] [0, 3, 4] [] [] ⟨[(0, (.v (.sl (List.map GTerm.c a107_)), [])), (3, (.v (.sl (List.map GTerm.c (a108_ ++ [c112_]))), [(0, .app 40)])), (4, (.v (.int .i64 (wr.i64 (b109_ + 1))), []))], [], []⟩ _ (by kernel_rfl) .nil ?_
            exact ⟨_, Nat.lt_succ_self _, _, _, rfl, h118⟩
          · refine Wc.condF h119 (by kernel_rfl) ?_
            refine Wc.fix (st' := ⟨[(3, (.v (.sl (List.map GTerm.c a108_)), [(0, .app 40)]))], [], []⟩) [] [3] [] [] (by kernel_rfl) ?_
            refine Wc.exit ?_
            obtain rfl := Option.some.inj h118
            exact ⟨_, rfl, rfl⟩
      · rintro st ⟨a110_, rfl, rfl⟩
        refine Wc.seq ?_
        refine Wc.region [{ tk := [3] }, { tk := [20] }] [] [2] [] [] ⟨[(2, (.v (.sl (List.map GTerm.c a110_)), [(0, .app 40)]))], [], []⟩ _ (by kernel_rfl) .nil ?_
        refine Wc.ret ?_
        obtain rfl := Option.some.inj h
        exact ⟨.inl rfl, by kernel_rfl, by kernel_rfl⟩
theorem cspec_l34Term {k : Nat} {c105_ : GTerm} {r : GTerm} (h : pspec_l34Term k c105_ = some r) : FnO Try.prog 82 [.v (.agg [.int .i64 c105_.gKind, .str c105_.gName, .int .i64 c105_.gNum, .sl (List.map GTerm.c c105_.gKids)]) []] (.v (.agg [.int .i64 r.gKind, .str r.gName, .int .i64 r.gNum, .sl (List.map GTerm.c r.gKids)]) [(3, .app 40)]) [] := (all_pspec_l34Term k).1 h
theorem cspec_l34Terms {k : Nat} {a107_ : List GTerm} {r : (List GTerm)} (h : pspec_l34Terms k a107_ = some r) : FnO Try.prog 75 [.v (.sl (List.map GTerm.c a107_)) []] (.v (.sl (List.map GTerm.c r)) [(0, .app 40)]) [] := (all_pspec_l34Term k).2 h

/-- spec.ItemsOf -/
def pspec_ItemsOf (k : Nat) (c116_ : GTerm) : Option ((List GTerm) × Bool) :=
  (pspec_l21ItemsOfRaw k c116_).bind fun i117_ =>
  (pspec_l34Terms k i117_.1).bind fun g118_ =>
  some (g118_, i117_.2)
theorem cspec_ItemsOf {k : Nat} {c116_ : GTerm} {r : (List GTerm) × Bool} (h : pspec_ItemsOf k c116_ = some r) : FnO Try.prog 34 [.v (.agg [.int .i64 c116_.gKind, .str c116_.gName, .int .i64 c116_.gNum, .sl (List.map GTerm.c c116_.gKids)]) []] (.v (.tup [.sl (List.map GTerm.c r.1), .bool r.2]) [(0, .app 40)]) [] := by
  refine FnO.of Try.func34 (rfl : Try.f34.body = some _) (Nat.le_of_ble_eq_true (by kernel_rfl)) (Nat.le_of_ble_eq_true (by kernel_rfl)) ?_
  intro w0 X0 Fin pv0 pb
  unfold pspec_ItemsOf at h
  refine Wc.seq ?_
  refine Wc.region [] [] [1] [1] [] ⟨[(1, (.ptr 1 0, []))], [(1, .cells [.int .i64 c116_.gKind, .str c116_.gName, .int .i64 c116_.gNum, .sl (List.map GTerm.c c116_.gKids)] [])], []⟩ _ (by kernel_rfl) .nil ?_
  refine Wc.seq ?_
  obtain ⟨i117_, h125, h⟩ := obind h
  refine Wc.region [{}, { r := some (.v (.tup [.sl (List.map GTerm.c i117_.1), .bool i117_.2]) [(0, .app 40)]) }, { tk := [8] }, { tk := [6] }, {}, { tk := [9] }] [] [4, 5] [] [] ⟨[(4, (.v (.sl (List.map GTerm.c i117_.1)), [(0, .app 40)])), (5, (.v (.bool i117_.2), []))], [], []⟩ _ (by kernel_rfl) (.cons (cspec_l21ItemsOfRaw h125) .nil) ?_
  refine Wc.seq ?_
  obtain ⟨g118_, h126, h⟩ := obind h
  refine Wc.region [{ tk := [4] }, { r := some (.v (.sl (List.map GTerm.c g118_)) [(0, .app 40)]) }, {}, { tk := [12] }] [] [2, 3] [] [] ⟨[(2, (.v (.sl (List.map GTerm.c g118_)), [(0, .app 40)])), (3, (.v (.bool i117_.2), []))], [], []⟩ _ (by kernel_rfl) (.cons (cspec_l34Terms h126) .nil) ?_
  refine Wc.ret ?_
  obtain rfl := Option.some.inj h
  exact ⟨.inl rfl, by kernel_rfl, by kernel_rfl⟩

def plaws_toTermS_L1 (k : Nat) (rlaws_toTerm : GTerm → Option GTerm) (rlaws_toTermS : (List GTerm) → Option (List GTerm)) (a121_ : List GTerm) : Nat → (List GTerm) → Int → Option (Out (List GTerm) (List GTerm))
  | 0, _, _ => none
  | m + 1, a122_, b123_ =>
    if (decide (b123_ < (a121_.length : Int))) = true then
      (at' a121_ b123_).bind fun c125_ =>
      (rlaws_toTerm c125_).bind fun c126_ =>
      (at' a122_ b123_).bind fun c127_ =>
      plaws_toTermS_L1 k rlaws_toTerm rlaws_toTermS a121_ m (a122_.set ((b123_).toNat) c126_) (wr.i64 (b123_ + 1))
    else
      some (.done a122_)
mutual
/-- laws.toTerm -/
def plaws_toTerm : Nat → GTerm → Option GTerm
  | 0, _ => none
  | k + 1, c119_ =>
    (plaws_toTermS k c119_.gKids).bind fun g120_ =>
    some (GTerm.mk c119_.gKind c119_.gName c119_.gNum g120_)
/-- laws.toTermS -/
def plaws_toTermS : Nat → (List GTerm) → Option (List GTerm)
  | 0, _ => none
  | k + 1, a121_ =>
    if 0 ≤ (a121_.length : Int) ∧ (a121_.length : Int) ≤ 1073741824 then
      (plaws_toTermS_L1 k (plaws_toTerm k) (plaws_toTermS k) a121_ k (List.replicate ((a121_.length : Int)).toNat (GTerm.mk 0 (bs []) 0 [])) 0).bind fun out1 => match out1 with
      | .ret r => some r
      | .done a124_ =>
        some a124_
    else none
end
theorem all_plaws_toTerm : ∀ k : Nat, (∀ {c119_ : GTerm} {r : GTerm}, plaws_toTerm k c119_ = some r → FnO Try.prog 35 [.v (.agg [.int .i64 c119_.gKind, .str c119_.gName, .int .i64 c119_.gNum, .sl (List.map GTerm.c c119_.gKids)]) []] (.v (.agg [.int .i64 r.gKind, .str r.gName, .int .i64 r.gNum, .sl (List.map GTerm.c r.gKids)]) []) []) ∧
    (∀ {a121_ : List GTerm} {r : (List GTerm)}, plaws_toTermS k a121_ = some r → FnO Try.prog 42 [.v (.sl (List.map GTerm.c a121_)) []] (.v (.sl (List.map GTerm.c r)) []) []) := by
  intro k
  induction k with
  | zero =>
    refine ⟨?_, ?_⟩
    · intro c119_ r h
      exact (onone (by rw [plaws_toTerm] at h; exact h)).elim
    · intro a121_ r h
      exact (onone (by rw [plaws_toTermS] at h; exact h)).elim
  | succ k ih =>
    obtain ⟨ih_plaws_toTerm, ih_plaws_toTermS⟩ := ih
    refine ⟨?_, ?_⟩
    · intro c119_ r h
      rw [plaws_toTerm] at h
      refine FnO.of Try.func35 (rfl : Try.f35.body = some _) (Nat.le_of_ble_eq_true (by kernel_rfl)) (Nat.le_of_ble_eq_true (by kernel_rfl)) ?_
      intro w0 X0 Fin pv0 pb
      refine Wc.seq ?_
      refine Wc.region [] [] [1, 2] [1, 2] [] ⟨[(1, (.ptr 1 0, [])), (2, (.ptr 2 0, []))], [(1, .cells [.int .i64 c119_.gKind, .str c119_.gName, .int .i64 c119_.gNum, .sl (List.map GTerm.c c119_.gKids)] []), (2, .cells [.int .i64 0, .str (bs []), .int .i64 0, .sl (List.map GTerm.c [])] [(3, .app 40)])], []⟩ _ (by kernel_rfl) .nil ?_
      refine Wc.seq ?_
      refine Wc.region [] [] [1, 2, 3] [1, 2, 3] [] ⟨[(1, (.ptr 1 0, [])), (2, (.ptr 2 0, [])), (3, (.ptr 3 0, []))], [(1, .cells [.int .i64 c119_.gKind, .str c119_.gName, .int .i64 c119_.gNum, .sl (List.map GTerm.c c119_.gKids)] []), (2, .cells [.int .i64 0, .str (bs []), .int .i64 0, .sl (List.map GTerm.c [])] [(3, .app 40)]), (3, .cells [.int .i64 0, .str (bs []), .int .i64 0, .sl (List.map GTerm.c [])] [(3, .app 40)])], []⟩ _ (by kernel_rfl) .nil ?_
      refine Wc.seq ?_
      refine Wc.region [] [] [1, 2, 3] [1, 2, 3] [] ⟨[(1, (.ptr 1 0, [])), (2, (.ptr 2 0, [])), (3, (.ptr 3 0, []))], [(1, .cells [.int .i64 c119_.gKind, .str c119_.gName, .int .i64 c119_.gNum, .sl (List.map GTerm.c c119_.gKids)] []), (2, .cells [.int .i64 0, .str (bs []), .int .i64 0, .sl (List.map GTerm.c [])] [(3, .app 40)]), (3, .cells [.int .i64 c119_.gKind, .str (bs []), .int .i64 0, .sl (List.map GTerm.c [])] [(3, .app 40)])], []⟩ _ (by kernel_rfl) .nil ?_
      refine Wc.seq ?_
      refine Wc.region [] [] [1, 2, 3] [1, 2, 3] [] ⟨[(1, (.ptr 1 0, [])), (2, (.ptr 2 0, [])), (3, (.ptr 3 0, []))], [(1, .cells [.int .i64 c119_.gKind, .str c119_.gName, .int .i64 c119_.gNum, .sl (List.map GTerm.c c119_.gKids)] []), (2, .cells [.int .i64 0, .str (bs []), .int .i64 0, .sl (List.map GTerm.c [])] [(3, .app 40)]), (3, .cells [.int .i64 c119_.gKind, .str c119_.gName, .int .i64 0, .sl (List.map GTerm.c [])] [(3, .app 40)])], []⟩ _ (by kernel_rfl) .nil ?_
      refine Wc.seq ?_
      refine Wc.region [] [] [1, 2, 3] [1, 2, 3] [] ⟨[(1, (.ptr 1 0, [])), (2, (.ptr 2 0, [])), (3, (.ptr 3 0, []))], [(1, .cells [.int .i64 c119_.gKind, .str c119_.gName, .int .i64 c119_.gNum, .sl (List.map GTerm.c c119_.gKids)] []), (2, .cells [.int .i64 0, .str (bs []), .int .i64 0, .sl (List.map GTerm.c [])] [(3, .app 40)]), (3, .cells [.int .i64 c119_.gKind, .str c119_.gName, .int .i64 c119_.gNum, .sl (List.map GTerm.c [])] [(3, .app 40)])], []⟩ _ (by kernel_rfl) .nil ?_
      refine Wc.seq ?_
      obtain ⟨g120_, h127, h⟩ := obind h
      refine Wc.region [{}, {}, { r := some (.v (.sl (List.map GTerm.c g120_)) []) }] [] [2, 3] [2, 3] [] ⟨[(2, (.ptr 2 0, [])), (3, (.ptr 3 0, []))], [(2, .cells [.int .i64 0, .str (bs []), .int .i64 0, .sl (List.map GTerm.c [])] [(3, .app 40)]), (3, .cells [.int .i64 c119_.gKind, .str c119_.gName, .int .i64 c119_.gNum, .sl (List.map GTerm.c g120_)] [])], []⟩ _ (by kernel_rfl) (.cons (ih_plaws_toTermS h127) .nil) ?_
      refine Wc.seq ?_
      refine Wc.region [] [] [2] [2] [] ⟨[(2, (.ptr 2 0, []))], [(2, .cells [.int .i64 c119_.gKind, .str c119_.gName, .int .i64 c119_.gNum, .sl (List.map GTerm.c g120_)] [])], []⟩ _ (by kernel_rfl) .nil ?_
      refine Wc.ret ?_
      obtain rfl := Option.some.inj h
      exact ⟨.inl rfl, by kernel_rfl, by kernel_rfl⟩
    · intro a121_ r h
      rw [plaws_toTermS] at h
      refine FnO.of Try.func42 (rfl : Try.f42.body = some _) (Nat.le_of_ble_eq_true (by kernel_rfl)) (Nat.le_of_ble_eq_true (by kernel_rfl)) ?_
      intro w0 X0 Fin pv0 pb
      refine Wc.seq ?_
      refine Wc.region [] [] [0] [] [] ⟨[(0, (.v (.sl (List.map GTerm.c a121_)), []))], [], []⟩ _ (by kernel_rfl) .nil ?_
      refine Wc.seq ?_
      obtain ⟨h128, h⟩ := oguard h
      refine Wc.region [{}, { v := some (.int .i64 (a121_.length : Int)) }, { c := some (List.map GTerm.c (List.replicate ((a121_.length : Int)).toNat (GTerm.mk 0 (bs []) 0 []))) }, { tk := [7], fx := [.ag (.t 7 0)] }] [] [0, 3] [] [] ⟨[(0, (.v (.sl (List.map GTerm.c a121_)), [])), (3, (.v (.slx), [(0, .ex 40 false (List.map GTerm.c (List.replicate ((a121_.length : Int)).toNat (GTerm.mk 0 (bs []) 0 []))))]))], [], []⟩ _ (by kernel_rfl) (.cons (len_obl GTerm.c a121_) (.cons (rep_re (c := GTerm.c) (GTerm.c_eq (GTerm.mk 0 (bs []) 0 [])) ((a121_.length : Int)).toNat) (.cons (ms_obl h128) .nil))) ?_
      refine Wc.seq ?_
      refine Wc.seq ?_
      refine Wc.region [] [] [0, 3, 4] [] [] ⟨[(0, (.v (.sl (List.map GTerm.c a121_)), [])), (3, (.v (.slx), [(0, .ex 40 false (List.map GTerm.c (List.replicate ((a121_.length : Int)).toNat (GTerm.mk 0 (bs []) 0 []))))])), (4, (.v (.int .i64 0), []))], [], []⟩ _ (by kernel_rfl) .nil ?_
      obtain ⟨out1, h129, h⟩ := obind h
      refine Wc.lastJ (fun st => ∃ (a124_ : List GTerm), out1 = .done a124_ ∧ st = ⟨[(3, (.v (.slx), [(0, .ex 40 false (List.map GTerm.c a124_))]))], [], []⟩) ?_ ?_
      · refine Wc.block ?_
        refine Wc.loop (fun m st => ∃ (a122_ : List GTerm) (b123_ : Int), st = ⟨[(0, (.v (.sl (List.map GTerm.c a121_)), [])), (3, (.v (.slx), [(0, .ex 40 false (List.map GTerm.c a122_))])), (4, (.v (.int .i64 b123_), []))], [], []⟩ ∧ plaws_toTermS_L1 k (plaws_toTerm k) (plaws_toTermS k) a121_ m a122_ b123_ = some out1) ?_ k ⟨_, _, rfl, h129⟩
        rintro m st ⟨a122_, b123_, rfl, h129⟩
        cases m with
        | zero => exact (onone h129).elim
        | succ m =>
          refine Wc.seq ?_
          refine Wc.seq ?_
          refine Wc.region [{}, {}, { v := some (.int .i64 (a121_.length : Int)) }] [] [0, 3, 4, 11] [] [] ⟨[(0, (.v (.sl (List.map GTerm.c a121_)), [])), (3, (.v (.slx), [(0, .ex 40 false (List.map GTerm.c a122_))])), (4, (.v (.int .i64 b123_), [])), (11, (.v (.bool (decide (b123_ < (a121_.length : Int)))), []))], [], []⟩ _ (by kernel_rfl) (.cons (len_obl GTerm.c a121_) .nil) ?_
          rcases oif h129 with ⟨h130, h129⟩ | ⟨h130, h129⟩
          · refine Wc.condT h130 (by kernel_rfl) ?_
            refine Wc.fix (st' := ⟨[(0, (.v (.sl (List.map GTerm.c a121_)), [])), (3, (.v (.slx), [(0, .ex 40 false (List.map GTerm.c a122_))])), (4, (.v (.int .i64 b123_), []))], [], []⟩) [] [0, 3, 4] [] [] (by kernel_rfl) ?_
            refine Wc.skip ?_
            refine Wc.seq ?_
            refine Wc.block ?_
            obtain ⟨c125_, h131, h129⟩ := obind h129
            obtain ⟨c126_, h132, h129⟩ := obind h129
            obtain ⟨c127_, h133, h129⟩ := obind h129
            refine Wc.region [{}, {}, {}, {}, { v := some (.vptr [.int .i64 c125_.gKind, .str c125_.gName, .int .i64 c125_.gNum, .sl (List.map GTerm.c c125_.gKids)]) }, {}, { r := some (.v (.agg [.int .i64 c126_.gKind, .str c126_.gName, .int .i64 c126_.gNum, .sl (List.map GTerm.c c126_.gKids)]) []) }, {}, { c := some (List.map GTerm.c (a122_.set ((b123_).toNat) c126_)) }] [] [0, 3, 4] [] [] ⟨[(0, (.v (.sl (List.map GTerm.c a121_)), [])), (3, (.v (.slx), [(0, .ex 40 false (List.map GTerm.c (a122_.set ((b123_).toNat) c126_)))])), (4, (.v (.int .i64 b123_), []))], [], []⟩ _ (by kernel_rfl) (.cons (at_obl (c := GTerm.c) (GTerm.c_eq c125_) GTerm.c_len h131) (.cons (len_ok 4 [.int .i64 c125_.gKind, .str c125_.gName, .int .i64 c125_.gNum, .sl (List.map GTerm.c c125_.gKids)]) (.cons (ih_plaws_toTerm h132) (.cons (ix_obl (c := GTerm.c) GTerm.c_len h133) (.cons (mod_obl (off := 0) (new := [.int .i64 c126_.gKind, .str c126_.gName, .int .i64 c126_.gNum, .sl (List.map GTerm.c c126_.gKids)]) (c := GTerm.c) (GTerm.c_eq c127_) (GTerm.c_eq c126_) (at'_spec h133).2 rfl) (.cons (st_obl (sz := 4) (off := 0) (s := 4) (c := GTerm.c) (GTerm.c_eq c127_) (at'_spec h133).2 rfl (Nat.le_of_ble_eq_true rfl)) .nil)))))) ?_
            refine Wc.region [] [] [0, 3, 4] [] [] ⟨[(0, (.v (.sl (List.map GTerm.c a121_)), [])), (3, (.v (.slx), [(0, .ex 40 false (List.map GTerm.c (a122_.set ((b123_).toNat) c126_)))])), (4, (.v (.int .i64 (wr.i64 (b123_ + 1))), []))], [], []⟩ _ (by kernel_rfl) .nil ?_
            exact ⟨_, Nat.lt_succ_self _, _, _, rfl, h129⟩
          · refine Wc.condF h130 (by kernel_rfl) ?_
            refine Wc.fix (st' := ⟨[(3, (.v (.slx), [(0, .ex 40 false (List.map GTerm.c a122_))]))], [], []⟩) [] [3] [] [] (by kernel_rfl) ?_
            refine Wc.exit ?_
            obtain rfl := Option.some.inj h129
            exact ⟨_, rfl, rfl⟩
      · rintro st ⟨a124_, rfl, rfl⟩
        refine Wc.seq ?_
        refine Wc.region [{ tk := [3] }, { tk := [22] }] [] [2] [] [] ⟨[(2, (.v (.slx), [(0, .ex 40 false (List.map GTerm.c a124_))]))], [], []⟩ _ (by kernel_rfl) .nil ?_
        refine Wc.fix (st' := ⟨[(2, (.v (.sl (List.map GTerm.c a124_)), []))], [], []⟩) [.sh (.t 2 0)] [2] [] [] (by kernel_rfl) ?_
        refine Wc.ret ?_
        obtain rfl := Option.some.inj h
        exact ⟨.inl rfl, by kernel_rfl, by kernel_rfl⟩
theorem claws_toTerm {k : Nat} {c119_ : GTerm} {r : GTerm} (h : plaws_toTerm k c119_ = some r) : FnO Try.prog 35 [.v (.agg [.int .i64 c119_.gKind, .str c119_.gName, .int .i64 c119_.gNum, .sl (List.map GTerm.c c119_.gKids)]) []] (.v (.agg [.int .i64 r.gKind, .str r.gName, .int .i64 r.gNum, .sl (List.map GTerm.c r.gKids)]) []) [] := (all_plaws_toTerm k).1 h
theorem claws_toTermS {k : Nat} {a121_ : List GTerm} {r : (List GTerm)} (h : plaws_toTermS k a121_ = some r) : FnO Try.prog 42 [.v (.sl (List.map GTerm.c a121_)) []] (.v (.sl (List.map GTerm.c r)) []) [] := (all_plaws_toTerm k).2 h

/-- impl.within -/
def pimpl_within (k : Nat) (b128_ : Int) (b129_ : Int) (b130_ : Int) : Option Bool :=
  if (decide (b128_ ≥ b129_)) = true then
    some (decide (b128_ ≤ b130_))
  else
    some false
theorem cimpl_within {k : Nat} {b128_ : Int} {b129_ : Int} {b130_ : Int} {r : Bool} (h : pimpl_within k b128_ b129_ b130_ = some r) : FnO Try.prog 50 [.v (.int .i64 b128_) [], .v (.int .i64 b129_) [], .v (.int .i64 b130_) []] (.v (.bool r) []) [] := by
  refine FnO.of Try.func50 (rfl : Try.f50.body = some _) (Nat.le_of_ble_eq_true (by kernel_rfl)) (Nat.le_of_ble_eq_true (by kernel_rfl)) ?_
  intro w0 X0 Fin pv0 pb
  unfold pimpl_within at h
  refine Wc.seq ?_
  refine Wc.region [] [] [0, 1, 2] [] [] ⟨[(0, (.v (.int .i64 b128_), [])), (1, (.v (.int .i64 b129_), [])), (2, (.v (.int .i64 b130_), []))], [], []⟩ _ (by kernel_rfl) .nil ?_
  refine Wc.seq ?_
  rcases oif h with ⟨h134, h⟩ | ⟨h134, h⟩
  · refine Wc.region [{}, {}, {}, { re := some (.bool true) }] [] [6] [] [] ⟨[(6, (.v (.bool (decide (b128_ ≤ b130_))), []))], [], []⟩ _ (by kernel_rfl) (.cons (congrArg AV.bool h134) .nil) ?_
    refine Wc.ret ?_
    obtain rfl := Option.some.inj h
    exact ⟨.inl rfl, by kernel_rfl, by kernel_rfl⟩
  · refine Wc.region [{}, {}, {}, { re := some (.bool false) }] [] [6] [] [] ⟨[(6, (.v (.bool false), []))], [], []⟩ _ (by kernel_rfl) (.cons (congrArg AV.bool h134) .nil) ?_
    refine Wc.ret ?_
    obtain rfl := Option.some.inj h
    exact ⟨.inl rfl, by kernel_rfl, by kernel_rfl⟩

def pimpl_nameOk_L1 (k : Nat) (e131_ : ByteArray) : Nat → Int → Option (Out Bool Unit)
  | 0, _ => none
  | m + 1, b132_ =>
    if (decide (b132_ < (e131_.size : Int))) = true then
      if 0 ≤ b132_ ∧ (b132_).toNat < e131_.size then
        (pimpl_within k (wr.i64 (bt e131_ b132_)) 33 126).bind fun d133_ =>
        if (!d133_) = true then
          some (.ret false)
        else
          if 0 ≤ b132_ ∧ (b132_).toNat < e131_.size then
            if ((bt e131_ b132_) == 39) = true then
              some (.ret false)
            else
              if 0 ≤ b132_ ∧ (b132_).toNat < e131_.size then
                if ((bt e131_ b132_) == 34) = true then
                  some (.ret false)
                else
                  pimpl_nameOk_L1 k e131_ m (wr.i64 (b132_ + 1))
              else none
          else none
      else none
    else
      some (.done ())
/-- impl.nameOk -/
def pimpl_nameOk (k : Nat) (e131_ : ByteArray) : Option Bool :=
  (pimpl_nameOk_L1 k e131_ k 0).bind fun out1 => match out1 with
  | .ret r => some r
  | .done () =>
    (pimpl_within k (e131_.size : Int) 1 20).bind fun d134_ =>
    some d134_
theorem cimpl_nameOk {k : Nat} {e131_ : ByteArray} {r : Bool} (h : pimpl_nameOk k e131_ = some r) : FnO Try.prog 114 [.v (.str e131_) []] (.v (.bool r) []) [] := by
  refine FnO.of Try.func114 (rfl : Try.f114.body = some _) (Nat.le_of_ble_eq_true (by kernel_rfl)) (Nat.le_of_ble_eq_true (by kernel_rfl)) ?_
  intro w0 X0 Fin pv0 pb
  unfold pimpl_nameOk at h
  refine Wc.seq ?_
  refine Wc.region [] [] [0] [] [] ⟨[(0, (.v (.str e131_), []))], [], []⟩ _ (by kernel_rfl) .nil ?_
  refine Wc.seq ?_
  refine Wc.seq ?_
  refine Wc.region [] [] [0, 3] [] [] ⟨[(0, (.v (.str e131_), [])), (3, (.v (.int .i64 0), []))], [], []⟩ _ (by kernel_rfl) .nil ?_
  obtain ⟨out1, h135, h⟩ := obind h
  refine Wc.lastJ (fun st => out1 = .done () ∧ st = ⟨[(0, (.v (.str e131_), []))], [], []⟩) ?_ ?_
  · refine Wc.block ?_
    refine Wc.loop (fun m st => ∃ (b132_ : Int), st = ⟨[(0, (.v (.str e131_), [])), (3, (.v (.int .i64 b132_), []))], [], []⟩ ∧ pimpl_nameOk_L1 k e131_ m b132_ = some out1) ?_ k ⟨_, rfl, h135⟩
    rintro m st ⟨b132_, rfl, h135⟩
    cases m with
    | zero => exact (onone h135).elim
    | succ m =>
      refine Wc.seq ?_
      refine Wc.seq ?_
      refine Wc.region [] [] [0, 3, 7] [] [] ⟨[(0, (.v (.str e131_), [])), (3, (.v (.int .i64 b132_), [])), (7, (.v (.bool (decide (b132_ < (e131_.size : Int)))), []))], [], []⟩ _ (by kernel_rfl) .nil ?_
      rcases oif h135 with ⟨h136, h135⟩ | ⟨h136, h135⟩
      · refine Wc.condT h136 (by kernel_rfl) ?_
        refine Wc.fix (st' := ⟨[(0, (.v (.str e131_), [])), (3, (.v (.int .i64 b132_), []))], [], []⟩) [] [0, 3] [] [] (by kernel_rfl) ?_
        refine Wc.skip ?_
        refine Wc.seq ?_
        refine Wc.block ?_
        refine Wc.seq ?_
        obtain ⟨h137, h135⟩ := oguard h135
        obtain ⟨d133_, h138, h135⟩ := obind h135
        rcases oif h135 with ⟨h139, h135⟩ | ⟨h139, h135⟩
        · refine Wc.region [{}, {}, {}, {}, { r := some (.v (.bool d133_) []) }, {}, { re := some (.bool true) }] [] [0, 3, 27] [] [] ⟨[(0, (.v (.str e131_), [])), (3, (.v (.int .i64 b132_), [])), (27, (.v (.bool true), []))], [], []⟩ _ (by kernel_rfl) (.cons h137 (.cons (cimpl_within h138) (.cons (congrArg AV.bool h139) .nil))) ?_
          refine Wc.condT rfl (by kernel_rfl) ?_
          refine Wc.seq ?_
          refine Wc.region [] [] [2] [] [] ⟨[(2, (.v (.bool false), []))], [], []⟩ _ (by kernel_rfl) .nil ?_
          refine Wc.ret ?_
          obtain rfl := Option.some.inj h135
          obtain rfl := Option.some.inj h
          exact ⟨.inl rfl, by kernel_rfl, by kernel_rfl⟩
        · obtain ⟨h140, h135⟩ := oguard h135
          rcases oif h135 with ⟨h141, h135⟩ | ⟨h141, h135⟩
          · refine Wc.region [{}, {}, {}, {}, { r := some (.v (.bool d133_) []) }, {}, { re := some (.bool false) }, {}, {}, {}, {}, {}, { re := some (.bool true) }] [] [0, 3, 27] [] [] ⟨[(0, (.v (.str e131_), [])), (3, (.v (.int .i64 b132_), [])), (27, (.v (.bool true), []))], [], []⟩ _ (by kernel_rfl) (.cons h137 (.cons (cimpl_within h138) (.cons (congrArg AV.bool h139) (.cons h140 (.cons (congrArg AV.bool h141) .nil))))) ?_
            refine Wc.condT rfl (by kernel_rfl) ?_
            refine Wc.seq ?_
            refine Wc.region [] [] [2] [] [] ⟨[(2, (.v (.bool false), []))], [], []⟩ _ (by kernel_rfl) .nil ?_
            refine Wc.ret ?_
            obtain rfl := Option.some.inj h135
            obtain rfl := Option.some.inj h
            exact ⟨.inl rfl, by kernel_rfl, by kernel_rfl⟩
          · obtain ⟨h142, h135⟩ := oguard h135
            refine Wc.region [{}, {}, {}, {}, { r := some (.v (.bool d133_) []) }, {}, { re := some (.bool false) }, {}, {}, {}, {}, {}, { re := some (.bool false) }] [] [0, 3, 27] [] [] ⟨[(0, (.v (.str e131_), [])), (3, (.v (.int .i64 b132_), [])), (27, (.v (.bool ((bt e131_ b132_) == 34)), []))], [], []⟩ _ (by kernel_rfl) (.cons h137 (.cons (cimpl_within h138) (.cons (congrArg AV.bool h139) (.cons h140 (.cons (congrArg AV.bool h141) (.cons h142 .nil)))))) ?_
            rcases oif h135 with ⟨h143, h135⟩ | ⟨h143, h135⟩
            · refine Wc.condT h143 (by kernel_rfl) ?_
              refine Wc.seq ?_
              refine Wc.region [] [] [2] [] [] ⟨[(2, (.v (.bool false), []))], [], []⟩ _ (by kernel_rfl) .nil ?_
              refine Wc.ret ?_
              obtain rfl := Option.some.inj h135
              obtain rfl := Option.some.inj h
              exact ⟨.inl rfl, by kernel_rfl, by kernel_rfl⟩
            · refine Wc.condF h143 (by kernel_rfl) ?_
              refine Wc.fix (st' := ⟨[(0, (.v (.str e131_), [])), (3, (.v (.int .i64 b132_), []))], [], []⟩) [] [0, 3] [] [] (by kernel_rfl) ?_
              refine Wc.skip ?_
              refine Wc.region [] [] [0, 3] [] [] ⟨[(0, (.v (.str e131_), [])), (3, (.v (.int .i64 (wr.i64 (b132_ + 1))), []))], [], []⟩ _ (by kernel_rfl) .nil ?_
              exact ⟨_, Nat.lt_succ_self _, _, rfl, h135⟩
      · refine Wc.condF h136 (by kernel_rfl) ?_
        refine Wc.fix (st' := ⟨[(0, (.v (.str e131_), []))], [], []⟩) [] [0] [] [] (by kernel_rfl) ?_
        refine Wc.exit ?_
        obtain rfl := Option.some.inj h135
        exact ⟨rfl, rfl⟩
  · rintro st ⟨rfl, rfl⟩
    refine Wc.seq ?_
    obtain ⟨d134_, h144, h⟩ := obind h
    refine Wc.region [{}, {}, { r := some (.v (.bool d134_) []) }] [] [2] [] [] ⟨[(2, (.v (.bool d134_), []))], [], []⟩ _ (by kernel_rfl) (.cons (cimpl_within h144) .nil) ?_
    refine Wc.ret ?_
    obtain rfl := Option.some.inj h
    exact ⟨.inl rfl, by kernel_rfl, by kernel_rfl⟩

def pimpl_sized_L2 (k : Nat) (rimpl_sized : GTerm → Int → Option Int) (c135_ : GTerm) (b136_ : Int) : Nat → Int → Int → Option (Out Int Int)
  | 0, _, _ => none
  | m + 1, b137_, b138_ =>
    if (decide (b138_ < (c135_.gKids.length : Int))) = true then
      (at' c135_.gKids b138_).bind fun c140_ =>
      (rimpl_sized c140_ (wr.i64 (b136_ + 1))).bind fun b141_ =>
      if (decide ((wr.i64 (b137_ + b141_)) > 400)) = true then
        some (.ret 401)
      else
        pimpl_sized_L2 k rimpl_sized c135_ b136_ m (wr.i64 (b137_ + b141_)) (wr.i64 (b138_ + 1))
    else
      some (.done b137_)
def pimpl_sized_J1 (k : Nat) (rimpl_sized : GTerm → Int → Option Int) (c135_ : GTerm) (b136_ : Int) : Option Int :=
  (pimpl_sized_L2 k rimpl_sized c135_ b136_ k 1 0).bind fun out2 => match out2 with
  | .ret r => some r
  | .done b139_ =>
    some b139_
mutual
/-- impl.sized -/
def pimpl_sized : Nat → GTerm → Int → Option Int
  | 0, _, _ => none
  | k + 1, c135_, b136_ =>
    if (decide (b136_ > 40)) = true then
      some 401
    else
      if (c135_.gKind == 1) = true then
        if (!(sEq c135_.gName (bs []))) = true then
          some 401
        else
          (pimpl_within k c135_.gNum 0 99999).bind fun d142_ =>
          if (!d142_) = true then
            some 401
          else
            if (decide ((c135_.gKids.length : Int) > 0)) = true then
              some 401
            else
              pimpl_sized_J1 k (pimpl_sized k) c135_ b136_
      else
        if (c135_.gKind == 2) = true then
          (pimpl_nameOk k c135_.gName).bind fun d143_ =>
          if (!d143_) = true then
            some 401
          else
            if (c135_.gNum != 0) = true then
              some 401
            else
              if (decide ((c135_.gKids.length : Int) > 0)) = true then
                some 401
              else
                pimpl_sized_J1 k (pimpl_sized k) c135_ b136_
        else
          if (c135_.gKind == 3) = true then
            if (!(sEq c135_.gName (bs []))) = true then
              some 401
            else
              (pimpl_within k c135_.gNum (-999999999) 999999999).bind fun d144_ =>
              if (!d144_) = true then
                some 401
              else
                if (decide ((c135_.gKids.length : Int) > 0)) = true then
                  some 401
                else
                  pimpl_sized_J1 k (pimpl_sized k) c135_ b136_
          else
            if (c135_.gKind == 4) = true then
              (pimpl_nameOk k c135_.gName).bind fun d145_ =>
              if (!d145_) = true then
                some 401
              else
                if (c135_.gNum != 0) = true then
                  some 401
                else
                  (pimpl_within k (c135_.gKids.length : Int) 1 5).bind fun d146_ =>
                  if (!d146_) = true then
                    some 401
                  else
                    pimpl_sized_J1 k (pimpl_sized k) c135_ b136_
            else
              some 401
end
theorem all_pimpl_sized : ∀ k : Nat, (∀ {c135_ : GTerm} {b136_ : Int} {r : Int}, pimpl_sized k c135_ b136_ = some r → FnO Try.prog 101 [.v (.agg [.int .i64 c135_.gKind, .str c135_.gName, .int .i64 c135_.gNum, .sl (List.map GTerm.c c135_.gKids)]) [], .v (.int .i64 b136_) []] (.v (.int .i64 r) []) []) := by
  intro k
  induction k with
  | zero =>
    · intro c135_ b136_ r h
      exact (onone (by rw [pimpl_sized] at h; exact h)).elim
  | succ k ih =>
    have ih_pimpl_sized := @ih
    · intro c135_ b136_ r h
      rw [pimpl_sized] at h
      refine FnO.of Try.func101 (rfl : Try.f101.body = some _) (Nat.le_of_ble_eq_true (by kernel_rfl)) (Nat.le_of_ble_eq_true (by kernel_rfl)) ?_
      intro w0 X0 Fin pv0 pb
      refine Wc.seq ?_
      refine Wc.region [] [] [1, 2] [2] [] ⟨[(1, (.v (.int .i64 b136_), [])), (2, (.ptr 2 0, []))], [(2, .cells [.int .i64 c135_.gKind, .str c135_.gName, .int .i64 c135_.gNum, .sl (List.map GTerm.c c135_.gKids)] [])], []⟩ _ (by kernel_rfl) .nil ?_
      refine Wc.seq ?_
      refine Wc.seq ?_
      refine Wc.region [] [] [1, 2, 9] [2] [] ⟨[(1, (.v (.int .i64 b136_), [])), (2, (.ptr 2 0, [])), (9, (.v (.bool (decide (b136_ > 40))), []))], [(2, .cells [.int .i64 c135_.gKind, .str c135_.gName, .int .i64 c135_.gNum, .sl (List.map GTerm.c c135_.gKids)] [])], []⟩ _ (by kernel_rfl) .nil ?_
      rcases oif h with ⟨h145, h⟩ | ⟨h145, h⟩
      · refine Wc.condT h145 (by kernel_rfl) ?_
        refine Wc.seq ?_
        refine Wc.region [] [] [4] [] [] ⟨[(4, (.v (.int .i64 401), []))], [], []⟩ _ (by kernel_rfl) .nil ?_
        refine Wc.ret ?_
        obtain rfl := Option.some.inj h
        exact ⟨.inl rfl, by kernel_rfl, by kernel_rfl⟩
      · refine Wc.condF h145 (by kernel_rfl) ?_
        refine Wc.fix (st' := ⟨[(1, (.v (.int .i64 b136_), [])), (2, (.ptr 2 0, []))], [(2, .cells [.int .i64 c135_.gKind, .str c135_.gName, .int .i64 c135_.gNum, .sl (List.map GTerm.c c135_.gKids)] [])], []⟩) [] [1, 2] [2] [] (by kernel_rfl) ?_
        refine Wc.skip ?_
        refine Wc.seqJ (fun st => st = ⟨[(1, (.v (.int .i64 b136_), [])), (2, (.ptr 2 0, []))], [(2, .cells [.int .i64 c135_.gKind, .str c135_.gName, .int .i64 c135_.gNum, .sl (List.map GTerm.c c135_.gKids)] [])], []⟩ ∧ pimpl_sized_J1 k (pimpl_sized k) c135_ b136_ = some r) ?_ ?_
        · refine Wc.seq ?_
          refine Wc.region [] [] [1, 2, 11] [2] [] ⟨[(1, (.v (.int .i64 b136_), [])), (2, (.ptr 2 0, [])), (11, (.v (.int .i64 c135_.gKind), []))], [(2, .cells [.int .i64 c135_.gKind, .str c135_.gName, .int .i64 c135_.gNum, .sl (List.map GTerm.c c135_.gKids)] [])], []⟩ _ (by kernel_rfl) .nil ?_
          refine Wc.block ?_
          refine Wc.seq ?_
          refine Wc.region [] [] [1, 2, 11, 12] [2] [] ⟨[(1, (.v (.int .i64 b136_), [])), (2, (.ptr 2 0, [])), (11, (.v (.int .i64 c135_.gKind), [])), (12, (.v (.bool (c135_.gKind == 1)), []))], [(2, .cells [.int .i64 c135_.gKind, .str c135_.gName, .int .i64 c135_.gNum, .sl (List.map GTerm.c c135_.gKids)] [])], []⟩ _ (by kernel_rfl) .nil ?_
          rcases oif h with ⟨h151, h⟩ | ⟨h151, h⟩
          · refine Wc.condT h151 (by kernel_rfl) ?_
            refine Wc.seq ?_
            rcases oif h with ⟨h152, h⟩ | ⟨h152, h⟩
            · refine Wc.region [{}, {}, {}, { re := some (.bool true) }] [] [1, 2, 28] [2] [] ⟨[(1, (.v (.int .i64 b136_), [])), (2, (.ptr 2 0, [])), (28, (.v (.bool true), []))], [(2, .cells [.int .i64 c135_.gKind, .str c135_.gName, .int .i64 c135_.gNum, .sl (List.map GTerm.c c135_.gKids)] [])], []⟩ _ (by kernel_rfl) (.cons (congrArg AV.bool h152) .nil) ?_
              refine Wc.condT rfl (by kernel_rfl) ?_
              refine Wc.seq ?_
              refine Wc.region [] [] [4] [] [] ⟨[(4, (.v (.int .i64 401), []))], [], []⟩ _ (by kernel_rfl) .nil ?_
              refine Wc.ret ?_
              obtain rfl := Option.some.inj h
              exact ⟨.inl rfl, by kernel_rfl, by kernel_rfl⟩
            · obtain ⟨d142_, h153, h⟩ := obind h
              rcases oif h with ⟨h154, h⟩ | ⟨h154, h⟩
              · refine Wc.region [{}, {}, {}, { re := some (.bool false) }, {}, {}, { r := some (.v (.bool d142_) []) }, {}, {}, { re := some (.bool true) }] [] [1, 2, 28] [2] [] ⟨[(1, (.v (.int .i64 b136_), [])), (2, (.ptr 2 0, [])), (28, (.v (.bool true), []))], [(2, .cells [.int .i64 c135_.gKind, .str c135_.gName, .int .i64 c135_.gNum, .sl (List.map GTerm.c c135_.gKids)] [])], []⟩ _ (by kernel_rfl) (.cons (congrArg AV.bool h152) (.cons (cimpl_within h153) (.cons (congrArg AV.bool h154) .nil))) ?_
                refine Wc.condT rfl (by kernel_rfl) ?_
                refine Wc.seq ?_
                refine Wc.region [] [] [4] [] [] ⟨[(4, (.v (.int .i64 401), []))], [], []⟩ _ (by kernel_rfl) .nil ?_
                refine Wc.ret ?_
                obtain rfl := Option.some.inj h
                exact ⟨.inl rfl, by kernel_rfl, by kernel_rfl⟩
              · refine Wc.region [{}, {}, {}, { re := some (.bool false) }, {}, {}, { r := some (.v (.bool d142_) []) }, {}, {}, { re := some (.bool false) }, {}, {}, { v := some (.int .i64 (c135_.gKids.length : Int)) }] [] [1, 2, 28] [2] [] ⟨[(1, (.v (.int .i64 b136_), [])), (2, (.ptr 2 0, [])), (28, (.v (.bool (decide ((c135_.gKids.length : Int) > 0))), []))], [(2, .cells [.int .i64 c135_.gKind, .str c135_.gName, .int .i64 c135_.gNum, .sl (List.map GTerm.c c135_.gKids)] [])], []⟩ _ (by kernel_rfl) (.cons (congrArg AV.bool h152) (.cons (cimpl_within h153) (.cons (congrArg AV.bool h154) (.cons (len_obl GTerm.c c135_.gKids) .nil)))) ?_
                rcases oif h with ⟨h155, h⟩ | ⟨h155, h⟩
                · refine Wc.condT h155 (by kernel_rfl) ?_
                  refine Wc.seq ?_
                  refine Wc.region [] [] [4] [] [] ⟨[(4, (.v (.int .i64 401), []))], [], []⟩ _ (by kernel_rfl) .nil ?_
                  refine Wc.ret ?_
                  obtain rfl := Option.some.inj h
                  exact ⟨.inl rfl, by kernel_rfl, by kernel_rfl⟩
                · refine Wc.condF h155 (by kernel_rfl) ?_
                  refine Wc.fix (st' := ⟨[(1, (.v (.int .i64 b136_), [])), (2, (.ptr 2 0, []))], [(2, .cells [.int .i64 c135_.gKind, .str c135_.gName, .int .i64 c135_.gNum, .sl (List.map GTerm.c c135_.gKids)] [])], []⟩) [] [1, 2] [2] [] (by kernel_rfl) ?_
                  refine Wc.skip ?_
                  exact ⟨rfl, h⟩
          · refine Wc.condF h151 (by kernel_rfl) ?_
            refine Wc.seq ?_
            refine Wc.region [] [] [1, 2, 11, 29] [2] [] ⟨[(1, (.v (.int .i64 b136_), [])), (2, (.ptr 2 0, [])), (11, (.v (.int .i64 c135_.gKind), [])), (29, (.v (.bool (c135_.gKind == 2)), []))], [(2, .cells [.int .i64 c135_.gKind, .str c135_.gName, .int .i64 c135_.gNum, .sl (List.map GTerm.c c135_.gKids)] [])], []⟩ _ (by kernel_rfl) .nil ?_
            rcases oif h with ⟨h156, h⟩ | ⟨h156, h⟩
            · refine Wc.condT h156 (by kernel_rfl) ?_
              refine Wc.seq ?_
              obtain ⟨d143_, h157, h⟩ := obind h
              rcases oif h with ⟨h158, h⟩ | ⟨h158, h⟩
              · refine Wc.region [{}, {}, { r := some (.v (.bool d143_) []) }, {}, { re := some (.bool true) }] [] [1, 2, 45] [2] [] ⟨[(1, (.v (.int .i64 b136_), [])), (2, (.ptr 2 0, [])), (45, (.v (.bool true), []))], [(2, .cells [.int .i64 c135_.gKind, .str c135_.gName, .int .i64 c135_.gNum, .sl (List.map GTerm.c c135_.gKids)] [])], []⟩ _ (by kernel_rfl) (.cons (cimpl_nameOk h157) (.cons (congrArg AV.bool h158) .nil)) ?_
                refine Wc.condT rfl (by kernel_rfl) ?_
                refine Wc.seq ?_
                refine Wc.region [] [] [4] [] [] ⟨[(4, (.v (.int .i64 401), []))], [], []⟩ _ (by kernel_rfl) .nil ?_
                refine Wc.ret ?_
                obtain rfl := Option.some.inj h
                exact ⟨.inl rfl, by kernel_rfl, by kernel_rfl⟩
              · rcases oif h with ⟨h159, h⟩ | ⟨h159, h⟩
                · refine Wc.region [{}, {}, { r := some (.v (.bool d143_) []) }, {}, { re := some (.bool false) }, {}, {}, {}, {}, { re := some (.bool true) }] [] [1, 2, 45] [2] [] ⟨[(1, (.v (.int .i64 b136_), [])), (2, (.ptr 2 0, [])), (45, (.v (.bool true), []))], [(2, .cells [.int .i64 c135_.gKind, .str c135_.gName, .int .i64 c135_.gNum, .sl (List.map GTerm.c c135_.gKids)] [])], []⟩ _ (by kernel_rfl) (.cons (cimpl_nameOk h157) (.cons (congrArg AV.bool h158) (.cons (congrArg AV.bool h159) .nil))) ?_
                  refine Wc.condT rfl (by kernel_rfl) ?_
                  refine Wc.seq ?_
                  refine Wc.region [] [] [4] [] [] ⟨[(4, (.v (.int .i64 401), []))], [], []⟩ _ (by kernel_rfl) .nil ?_
                  refine Wc.ret ?_
                  obtain rfl := Option.some.inj h
                  exact ⟨.inl rfl, by kernel_rfl, by kernel_rfl⟩
                · refine Wc.region [{}, {}, { r := some (.v (.bool d143_) []) }, {}, { re := some (.bool false) }, {}, {}, {}, {}, { re := some (.bool false) }, {}, {}, { v := some (.int .i64 (c135_.gKids.length : Int)) }] [] [1, 2, 45] [2] [] ⟨[(1, (.v (.int .i64 b136_), [])), (2, (.ptr 2 0, [])), (45, (.v (.bool (decide ((c135_.gKids.length : Int) > 0))), []))], [(2, .cells [.int .i64 c135_.gKind, .str c135_.gName, .int .i64 c135_.gNum, .sl (List.map GTerm.c c135_.gKids)] [])], []⟩ _ (by kernel_rfl) (.cons (cimpl_nameOk h157) (.cons (congrArg AV.bool h158) (.cons (congrArg AV.bool h159) (.cons (len_obl GTerm.c c135_.gKids) .nil)))) ?_
                  rcases oif h with ⟨h160, h⟩ | ⟨h160, h⟩
                  · refine Wc.condT h160 (by kernel_rfl) ?_
                    refine Wc.seq ?_
                    refine Wc.region [] [] [4] [] [] ⟨[(4, (.v (.int .i64 401), []))], [], []⟩ _ (by kernel_rfl) .nil ?_
                    refine Wc.ret ?_
                    obtain rfl := Option.some.inj h
                    exact ⟨.inl rfl, by kernel_rfl, by kernel_rfl⟩
                  · refine Wc.condF h160 (by kernel_rfl) ?_
                    refine Wc.fix (st' := ⟨[(1, (.v (.int .i64 b136_), [])), (2, (.ptr 2 0, []))], [(2, .cells [.int .i64 c135_.gKind, .str c135_.gName, .int .i64 c135_.gNum, .sl (List.map GTerm.c c135_.gKids)] [])], []⟩) [] [1, 2] [2] [] (by kernel_rfl) ?_
                    refine Wc.skip ?_
                    exact ⟨rfl, h⟩
            · refine Wc.condF h156 (by kernel_rfl) ?_
              refine Wc.seq ?_
              refine Wc.region [] [] [1, 2, 11, 46] [2] [] ⟨[(1, (.v (.int .i64 b136_), [])), (2, (.ptr 2 0, [])), (11, (.v (.int .i64 c135_.gKind), [])), (46, (.v (.bool (c135_.gKind == 3)), []))], [(2, .cells [.int .i64 c135_.gKind, .str c135_.gName, .int .i64 c135_.gNum, .sl (List.map GTerm.c c135_.gKids)] [])], []⟩ _ (by kernel_rfl) .nil ?_
              rcases oif h with ⟨h161, h⟩ | ⟨h161, h⟩
              · refine Wc.condT h161 (by kernel_rfl) ?_
                refine Wc.seq ?_
                rcases oif h with ⟨h162, h⟩ | ⟨h162, h⟩
                · refine Wc.region [{}, {}, {}, { re := some (.bool true) }] [] [1, 2, 62] [2] [] ⟨[(1, (.v (.int .i64 b136_), [])), (2, (.ptr 2 0, [])), (62, (.v (.bool true), []))], [(2, .cells [.int .i64 c135_.gKind, .str c135_.gName, .int .i64 c135_.gNum, .sl (List.map GTerm.c c135_.gKids)] [])], []⟩ _ (by kernel_rfl) (.cons (congrArg AV.bool h162) .nil) ?_
                  refine Wc.condT rfl (by kernel_rfl) ?_
                  refine Wc.seq ?_
                  refine Wc.region [] [] [4] [] [] ⟨[(4, (.v (.int .i64 401), []))], [], []⟩ _ (by kernel_rfl) .nil ?_
                  refine Wc.ret ?_
                  obtain rfl := Option.some.inj h
                  exact ⟨.inl rfl, by kernel_rfl, by kernel_rfl⟩
                · obtain ⟨d144_, h163, h⟩ := obind h
                  rcases oif h with ⟨h164, h⟩ | ⟨h164, h⟩
                  · refine Wc.region [{}, {}, {}, { re := some (.bool false) }, {}, {}, { r := some (.v (.bool d144_) []) }, {}, {}, { re := some (.bool true) }] [] [1, 2, 62] [2] [] ⟨[(1, (.v (.int .i64 b136_), [])), (2, (.ptr 2 0, [])), (62, (.v (.bool true), []))], [(2, .cells [.int .i64 c135_.gKind, .str c135_.gName, .int .i64 c135_.gNum, .sl (List.map GTerm.c c135_.gKids)] [])], []⟩ _ (by kernel_rfl) (.cons (congrArg AV.bool h162) (.cons (cimpl_within h163) (.cons (congrArg AV.bool h164) .nil))) ?_
                    refine Wc.condT rfl (by kernel_rfl) ?_
                    refine Wc.seq ?_
                    refine Wc.region [] [] [4] [] [] ⟨[(4, (.v (.int .i64 401), []))], [], []⟩ _ (by kernel_rfl) .nil ?_
                    refine Wc.ret ?_
                    obtain rfl := Option.some.inj h
                    exact ⟨.inl rfl, by kernel_rfl, by kernel_rfl⟩
                  · refine Wc.region [{}, {}, {}, { re := some (.bool false) }, {}, {}, { r := some (.v (.bool d144_) []) }, {}, {}, { re := some (.bool false) }, {}, {}, { v := some (.int .i64 (c135_.gKids.length : Int)) }] [] [1, 2, 62] [2] [] ⟨[(1, (.v (.int .i64 b136_), [])), (2, (.ptr 2 0, [])), (62, (.v (.bool (decide ((c135_.gKids.length : Int) > 0))), []))], [(2, .cells [.int .i64 c135_.gKind, .str c135_.gName, .int .i64 c135_.gNum, .sl (List.map GTerm.c c135_.gKids)] [])], []⟩ _ (by kernel_rfl) (.cons (congrArg AV.bool h162) (.cons (cimpl_within h163) (.cons (congrArg AV.bool h164) (.cons (len_obl GTerm.c c135_.gKids) .nil)))) ?_
                    rcases oif h with ⟨h165, h⟩ | ⟨h165, h⟩
                    · refine Wc.condT h165 (by kernel_rfl) ?_
                      refine Wc.seq ?_
                      refine Wc.region [] [] [4] [] [] ⟨[(4, (.v (.int .i64 401), []))], [], []⟩ _ (by kernel_rfl) .nil ?_
                      refine Wc.ret ?_
                      obtain rfl := Option.some.inj h
                      exact ⟨.inl rfl, by kernel_rfl, by kernel_rfl⟩
                    · refine Wc.condF h165 (by kernel_rfl) ?_
                      refine Wc.fix (st' := ⟨[(1, (.v (.int .i64 b136_), [])), (2, (.ptr 2 0, []))], [(2, .cells [.int .i64 c135_.gKind, .str c135_.gName, .int .i64 c135_.gNum, .sl (List.map GTerm.c c135_.gKids)] [])], []⟩) [] [1, 2] [2] [] (by kernel_rfl) ?_
                      refine Wc.skip ?_
                      exact ⟨rfl, h⟩
              · refine Wc.condF h161 (by kernel_rfl) ?_
                refine Wc.seq ?_
                refine Wc.region [] [] [1, 2, 63] [2] [] ⟨[(1, (.v (.int .i64 b136_), [])), (2, (.ptr 2 0, [])), (63, (.v (.bool (c135_.gKind == 4)), []))], [(2, .cells [.int .i64 c135_.gKind, .str c135_.gName, .int .i64 c135_.gNum, .sl (List.map GTerm.c c135_.gKids)] [])], []⟩ _ (by kernel_rfl) .nil ?_
                rcases oif h with ⟨h166, h⟩ | ⟨h166, h⟩
                · refine Wc.condT h166 (by kernel_rfl) ?_
                  refine Wc.seq ?_
                  obtain ⟨d145_, h167, h⟩ := obind h
                  rcases oif h with ⟨h168, h⟩ | ⟨h168, h⟩
                  · refine Wc.region [{}, {}, { r := some (.v (.bool d145_) []) }, {}, { re := some (.bool true) }] [] [1, 2, 80] [2] [] ⟨[(1, (.v (.int .i64 b136_), [])), (2, (.ptr 2 0, [])), (80, (.v (.bool true), []))], [(2, .cells [.int .i64 c135_.gKind, .str c135_.gName, .int .i64 c135_.gNum, .sl (List.map GTerm.c c135_.gKids)] [])], []⟩ _ (by kernel_rfl) (.cons (cimpl_nameOk h167) (.cons (congrArg AV.bool h168) .nil)) ?_
                    refine Wc.condT rfl (by kernel_rfl) ?_
                    refine Wc.seq ?_
                    refine Wc.region [] [] [4] [] [] ⟨[(4, (.v (.int .i64 401), []))], [], []⟩ _ (by kernel_rfl) .nil ?_
                    refine Wc.ret ?_
                    obtain rfl := Option.some.inj h
                    exact ⟨.inl rfl, by kernel_rfl, by kernel_rfl⟩
                  · rcases oif h with ⟨h169, h⟩ | ⟨h169, h⟩
                    · refine Wc.region [{}, {}, { r := some (.v (.bool d145_) []) }, {}, { re := some (.bool false) }, {}, {}, {}, {}, { re := some (.bool true) }] [] [1, 2, 80] [2] [] ⟨[(1, (.v (.int .i64 b136_), [])), (2, (.ptr 2 0, [])), (80, (.v (.bool true), []))], [(2, .cells [.int .i64 c135_.gKind, .str c135_.gName, .int .i64 c135_.gNum, .sl (List.map GTerm.c c135_.gKids)] [])], []⟩ _ (by kernel_rfl) (.cons (cimpl_nameOk h167) (.cons (congrArg AV.bool h168) (.cons (congrArg AV.bool h169) .nil))) ?_
                      refine Wc.condT rfl (by kernel_rfl) ?_
                      refine Wc.seq ?_
                      refine Wc.region [] [] [4] [] [] ⟨[(4, (.v (.int .i64 401), []))], [], []⟩ _ (by kernel_rfl) .nil ?_
                      refine Wc.ret ?_
                      obtain rfl := Option.some.inj h
                      exact ⟨.inl rfl, by kernel_rfl, by kernel_rfl⟩
                    · obtain ⟨d146_, h170, h⟩ := obind h
                      refine Wc.region [{}, {}, { r := some (.v (.bool d145_) []) }, {}, { re := some (.bool false) }, {}, {}, {}, {}, { re := some (.bool false) }, {}, {}, { v := some (.int .i64 (c135_.gKids.length : Int)) }, { r := some (.v (.bool d146_) []) }] [] [1, 2, 80] [2] [] ⟨[(1, (.v (.int .i64 b136_), [])), (2, (.ptr 2 0, [])), (80, (.v (.bool (!d146_)), []))], [(2, .cells [.int .i64 c135_.gKind, .str c135_.gName, .int .i64 c135_.gNum, .sl (List.map GTerm.c c135_.gKids)] [])], []⟩ _ (by kernel_rfl) (.cons (cimpl_nameOk h167) (.cons (congrArg AV.bool h168) (.cons (congrArg AV.bool h169) (.cons (len_obl GTerm.c c135_.gKids) (.cons (cimpl_within h170) .nil))))) ?_
                      rcases oif h with ⟨h171, h⟩ | ⟨h171, h⟩
                      · refine Wc.condT h171 (by kernel_rfl) ?_
                        refine Wc.seq ?_
                        refine Wc.region [] [] [4] [] [] ⟨[(4, (.v (.int .i64 401), []))], [], []⟩ _ (by kernel_rfl) .nil ?_
                        refine Wc.ret ?_
                        obtain rfl := Option.some.inj h
                        exact ⟨.inl rfl, by kernel_rfl, by kernel_rfl⟩
                      · refine Wc.condF h171 (by kernel_rfl) ?_
                        refine Wc.fix (st' := ⟨[(1, (.v (.int .i64 b136_), [])), (2, (.ptr 2 0, []))], [(2, .cells [.int .i64 c135_.gKind, .str c135_.gName, .int .i64 c135_.gNum, .sl (List.map GTerm.c c135_.gKids)] [])], []⟩) [] [1, 2] [2] [] (by kernel_rfl) ?_
                        refine Wc.skip ?_
                        exact ⟨rfl, h⟩
                · refine Wc.condF h166 (by kernel_rfl) ?_
                  refine Wc.seq ?_
                  refine Wc.region [] [] [4] [] [] ⟨[(4, (.v (.int .i64 401), []))], [], []⟩ _ (by kernel_rfl) .nil ?_
                  refine Wc.ret ?_
                  obtain rfl := Option.some.inj h
                  exact ⟨.inl rfl, by kernel_rfl, by kernel_rfl⟩
        · rintro st ⟨rfl, h⟩
          refine Wc.seq ?_
          refine Wc.region [] [] [1, 2, 5] [2] [] ⟨[(1, (.v (.int .i64 b136_), [])), (2, (.ptr 2 0, [])), (5, (.v (.int .i64 1), []))], [(2, .cells [.int .i64 c135_.gKind, .str c135_.gName, .int .i64 c135_.gNum, .sl (List.map GTerm.c c135_.gKids)] [])], []⟩ _ (by kernel_rfl) .nil ?_
          refine Wc.seq ?_
          refine Wc.seq ?_
          refine Wc.region [{}, {}, { v := some (.int .i64 (c135_.gKids.length : Int)) }] [] [1, 5, 82, 83, 84] [] [] ⟨[(1, (.v (.int .i64 b136_), [])), (5, (.v (.int .i64 1), [])), (82, (.v (.sl (List.map GTerm.c c135_.gKids)), [])), (83, (.v (.int .i64 (c135_.gKids.length : Int)), [])), (84, (.v (.int .i64 0), []))], [], []⟩ _ (by kernel_rfl) (.cons (len_obl GTerm.c c135_.gKids) .nil) ?_
          obtain ⟨out2, h146, h⟩ := obind h
          refine Wc.lastJ (fun st => ∃ (b139_ : Int), out2 = .done b139_ ∧ st = ⟨[(5, (.v (.int .i64 b139_), []))], [], []⟩) ?_ ?_
          · refine Wc.block ?_
            refine Wc.loop (fun m st => ∃ (b137_ : Int) (b138_ : Int), st = ⟨[(1, (.v (.int .i64 b136_), [])), (5, (.v (.int .i64 b137_), [])), (82, (.v (.sl (List.map GTerm.c c135_.gKids)), [])), (83, (.v (.int .i64 (c135_.gKids.length : Int)), [])), (84, (.v (.int .i64 b138_), []))], [], []⟩ ∧ pimpl_sized_L2 k (pimpl_sized k) c135_ b136_ m b137_ b138_ = some out2) ?_ k ⟨_, _, rfl, h146⟩
            rintro m st ⟨b137_, b138_, rfl, h146⟩
            cases m with
            | zero => exact (onone h146).elim
            | succ m =>
              refine Wc.seq ?_
              refine Wc.region [] [] [1, 5, 82, 83, 84, 85] [] [] ⟨[(1, (.v (.int .i64 b136_), [])), (5, (.v (.int .i64 b137_), [])), (82, (.v (.sl (List.map GTerm.c c135_.gKids)), [])), (83, (.v (.int .i64 (c135_.gKids.length : Int)), [])), (84, (.v (.int .i64 b138_), [])), (85, (.v (.bool (decide (b138_ < (c135_.gKids.length : Int)))), []))], [], []⟩ _ (by kernel_rfl) .nil ?_
              refine Wc.seq ?_
              rcases oif h146 with ⟨h147, h146⟩ | ⟨h147, h146⟩
              · refine Wc.condT h147 (by kernel_rfl) ?_
                refine Wc.fix (st' := ⟨[(1, (.v (.int .i64 b136_), [])), (5, (.v (.int .i64 b137_), [])), (82, (.v (.sl (List.map GTerm.c c135_.gKids)), [])), (83, (.v (.int .i64 (c135_.gKids.length : Int)), [])), (84, (.v (.int .i64 b138_), []))], [], []⟩) [] [1, 5, 82, 83, 84] [] [] (by kernel_rfl) ?_
                refine Wc.skip ?_
                refine Wc.seq ?_
                refine Wc.block ?_
                refine Wc.seq ?_
                obtain ⟨c140_, h148, h146⟩ := obind h146
                refine Wc.region [{ v := some (.vptr [.int .i64 c140_.gKind, .str c140_.gName, .int .i64 c140_.gNum, .sl (List.map GTerm.c c140_.gKids)]) }] [] [1, 5, 7, 82, 83, 84] [7] [] ⟨[(1, (.v (.int .i64 b136_), [])), (5, (.v (.int .i64 b137_), [])), (7, (.ptr 7 0, [])), (82, (.v (.sl (List.map GTerm.c c135_.gKids)), [])), (83, (.v (.int .i64 (c135_.gKids.length : Int)), [])), (84, (.v (.int .i64 b138_), []))], [(7, .cells [.int .i64 c140_.gKind, .str c140_.gName, .int .i64 c140_.gNum, .sl (List.map GTerm.c c140_.gKids)] [])], []⟩ _ (by kernel_rfl) (.cons (at_obl (c := GTerm.c) (GTerm.c_eq c140_) GTerm.c_len h148) (.cons (len_ok 4 [.int .i64 c140_.gKind, .str c140_.gName, .int .i64 c140_.gNum, .sl (List.map GTerm.c c140_.gKids)]) .nil)) ?_
                refine Wc.seq ?_
                obtain ⟨b141_, h149, h146⟩ := obind h146
                refine Wc.region [{}, {}, {}, {}, { r := some (.v (.int .i64 b141_) []) }] [] [1, 5, 82, 83, 84] [] [] ⟨[(1, (.v (.int .i64 b136_), [])), (5, (.v (.int .i64 (wr.i64 (b137_ + b141_))), [])), (82, (.v (.sl (List.map GTerm.c c135_.gKids)), [])), (83, (.v (.int .i64 (c135_.gKids.length : Int)), [])), (84, (.v (.int .i64 b138_), []))], [], []⟩ _ (by kernel_rfl) (.cons (ih_pimpl_sized h149) .nil) ?_
                refine Wc.seq ?_
                refine Wc.region [] [] [1, 5, 82, 83, 84, 95] [] [] ⟨[(1, (.v (.int .i64 b136_), [])), (5, (.v (.int .i64 (wr.i64 (b137_ + b141_))), [])), (82, (.v (.sl (List.map GTerm.c c135_.gKids)), [])), (83, (.v (.int .i64 (c135_.gKids.length : Int)), [])), (84, (.v (.int .i64 b138_), [])), (95, (.v (.bool (decide ((wr.i64 (b137_ + b141_)) > 400))), []))], [], []⟩ _ (by kernel_rfl) .nil ?_
                rcases oif h146 with ⟨h150, h146⟩ | ⟨h150, h146⟩
                · refine Wc.condT h150 (by kernel_rfl) ?_
                  refine Wc.seq ?_
                  refine Wc.region [] [] [4] [] [] ⟨[(4, (.v (.int .i64 401), []))], [], []⟩ _ (by kernel_rfl) .nil ?_
                  refine Wc.ret ?_
                  obtain rfl := Option.some.inj h146
                  obtain rfl := Option.some.inj h
                  exact ⟨.inl rfl, by kernel_rfl, by kernel_rfl⟩
                · refine Wc.condF h150 (by kernel_rfl) ?_
                  refine Wc.fix (st' := ⟨[(1, (.v (.int .i64 b136_), [])), (5, (.v (.int .i64 (wr.i64 (b137_ + b141_))), [])), (82, (.v (.sl (List.map GTerm.c c135_.gKids)), [])), (83, (.v (.int .i64 (c135_.gKids.length : Int)), [])), (84, (.v (.int .i64 b138_), []))], [], []⟩) [] [1, 5, 82, 83, 84] [] [] (by kernel_rfl) ?_
                  refine Wc.skip ?_
                  refine Wc.region [] [] [1, 5, 82, 83, 84] [] [] ⟨[(1, (.v (.int .i64 b136_), [])), (5, (.v (.int .i64 (wr.i64 (b137_ + b141_))), [])), (82, (.v (.sl (List.map GTerm.c c135_.gKids)), [])), (83, (.v (.int .i64 (c135_.gKids.length : Int)), [])), (84, (.v (.int .i64 (wr.i64 (b138_ + 1))), []))], [], []⟩ _ (by kernel_rfl) .nil ?_
                  exact ⟨_, Nat.lt_succ_self _, _, _, rfl, h146⟩
              · refine Wc.condF h147 (by kernel_rfl) ?_
                refine Wc.fix (st' := ⟨[(5, (.v (.int .i64 b137_), []))], [], []⟩) [] [5] [] [] (by kernel_rfl) ?_
                refine Wc.exit ?_
                obtain rfl := Option.some.inj h146
                exact ⟨_, rfl, rfl⟩
          · rintro st ⟨b139_, rfl, rfl⟩
            refine Wc.seq ?_
            refine Wc.region [] [] [4] [] [] ⟨[(4, (.v (.int .i64 b139_), []))], [], []⟩ _ (by kernel_rfl) .nil ?_
            refine Wc.ret ?_
            obtain rfl := Option.some.inj h
            exact ⟨.inl rfl, by kernel_rfl, by kernel_rfl⟩
theorem cimpl_sized {k : Nat} {c135_ : GTerm} {b136_ : Int} {r : Int} (h : pimpl_sized k c135_ b136_ = some r) : FnO Try.prog 101 [.v (.agg [.int .i64 c135_.gKind, .str c135_.gName, .int .i64 c135_.gNum, .sl (List.map GTerm.c c135_.gKids)]) [], .v (.int .i64 b136_) []] (.v (.int .i64 r) []) [] := (all_pimpl_sized k) h

/-- impl.TermOk -/
def pimpl_TermOk (k : Nat) (c147_ : GTerm) : Option Bool :=
  (pimpl_sized k c147_ 1).bind fun b148_ =>
  some (decide (b148_ ≤ 400))
theorem cimpl_TermOk {k : Nat} {c147_ : GTerm} {r : Bool} (h : pimpl_TermOk k c147_ = some r) : FnO Try.prog 76 [.v (.agg [.int .i64 c147_.gKind, .str c147_.gName, .int .i64 c147_.gNum, .sl (List.map GTerm.c c147_.gKids)]) []] (.v (.bool r) []) [] := by
  refine FnO.of Try.func76 (rfl : Try.f76.body = some _) (Nat.le_of_ble_eq_true (by kernel_rfl)) (Nat.le_of_ble_eq_true (by kernel_rfl)) ?_
  intro w0 X0 Fin pv0 pb
  unfold pimpl_TermOk at h
  refine Wc.seq ?_
  refine Wc.region [] [] [1] [1] [] ⟨[(1, (.ptr 1 0, []))], [(1, .cells [.int .i64 c147_.gKind, .str c147_.gName, .int .i64 c147_.gNum, .sl (List.map GTerm.c c147_.gKids)] [])], []⟩ _ (by kernel_rfl) .nil ?_
  refine Wc.seq ?_
  obtain ⟨b148_, h172, h⟩ := obind h
  refine Wc.region [{}, { r := some (.v (.int .i64 b148_) []) }] [] [2] [] [] ⟨[(2, (.v (.bool (decide (b148_ ≤ 400))), []))], [], []⟩ _ (by kernel_rfl) (.cons (cimpl_sized h172) .nil) ?_
  refine Wc.ret ?_
  obtain rfl := Option.some.inj h
  exact ⟨.inl rfl, by kernel_rfl, by kernel_rfl⟩

/-- impl.isStruct -/
def pimpl_isStruct (k : Nat) (c149_ : GTerm) (e150_ : ByteArray) (b151_ : Int) : Option Bool :=
  if (c149_.gKind == 4) = true then
    if (sEq c149_.gName e150_) = true then
      some ((c149_.gKids.length : Int) == b151_)
    else
      some false
  else
    some false
theorem cimpl_isStruct {k : Nat} {c149_ : GTerm} {e150_ : ByteArray} {b151_ : Int} {r : Bool} (h : pimpl_isStruct k c149_ e150_ b151_ = some r) : FnO Try.prog 102 [.v (.agg [.int .i64 c149_.gKind, .str c149_.gName, .int .i64 c149_.gNum, .sl (List.map GTerm.c c149_.gKids)]) [], .v (.str e150_) [], .v (.int .i64 b151_) []] (.v (.bool r) []) [] := by
  refine FnO.of Try.func102 (rfl : Try.f102.body = some _) (Nat.le_of_ble_eq_true (by kernel_rfl)) (Nat.le_of_ble_eq_true (by kernel_rfl)) ?_
  intro w0 X0 Fin pv0 pb
  unfold pimpl_isStruct at h
  refine Wc.seq ?_
  refine Wc.region [] [] [1, 2, 3] [3] [] ⟨[(1, (.v (.str e150_), [])), (2, (.v (.int .i64 b151_), [])), (3, (.ptr 3 0, []))], [(3, .cells [.int .i64 c149_.gKind, .str c149_.gName, .int .i64 c149_.gNum, .sl (List.map GTerm.c c149_.gKids)] [])], []⟩ _ (by kernel_rfl) .nil ?_
  refine Wc.seq ?_
  rcases oif h with ⟨h173, h⟩ | ⟨h173, h⟩
  · rcases oif h with ⟨h174, h⟩ | ⟨h174, h⟩
    · refine Wc.region [{}, {}, {}, { re := some (.bool true) }, {}, {}, {}, {}, {}, { re := some (.bool true) }, {}, {}, { v := some (.int .i64 (c149_.gKids.length : Int)) }] [] [6] [] [] ⟨[(6, (.v (.bool ((c149_.gKids.length : Int) == b151_)), []))], [], []⟩ _ (by kernel_rfl) (.cons (congrArg AV.bool h173) (.cons (congrArg AV.bool h174) (.cons (len_obl GTerm.c c149_.gKids) .nil))) ?_
      refine Wc.ret ?_
      obtain rfl := Option.some.inj h
      exact ⟨.inl rfl, by kernel_rfl, by kernel_rfl⟩
    · refine Wc.region [{}, {}, {}, { re := some (.bool true) }, {}, {}, {}, {}, {}, { re := some (.bool false) }] [] [6] [] [] ⟨[(6, (.v (.bool false), []))], [], []⟩ _ (by kernel_rfl) (.cons (congrArg AV.bool h173) (.cons (congrArg AV.bool h174) .nil)) ?_
      refine Wc.ret ?_
      obtain rfl := Option.some.inj h
      exact ⟨.inl rfl, by kernel_rfl, by kernel_rfl⟩
  · refine Wc.region [{}, {}, {}, { re := some (.bool false) }] [] [6] [] [] ⟨[(6, (.v (.bool false), []))], [], []⟩ _ (by kernel_rfl) (.cons (congrArg AV.bool h173) .nil) ?_
    refine Wc.ret ?_
    obtain rfl := Option.some.inj h
    exact ⟨.inl rfl, by kernel_rfl, by kernel_rfl⟩

/-- impl.isPair -/
def pimpl_isPair (k : Nat) (c152_ : GTerm) : Option Bool :=
  (pimpl_isStruct k c152_ (bs [46]) 2).bind fun d153_ =>
  some d153_
theorem cimpl_isPair {k : Nat} {c152_ : GTerm} {r : Bool} (h : pimpl_isPair k c152_ = some r) : FnO Try.prog 77 [.v (.agg [.int .i64 c152_.gKind, .str c152_.gName, .int .i64 c152_.gNum, .sl (List.map GTerm.c c152_.gKids)]) []] (.v (.bool r) []) [] := by
  refine FnO.of Try.func77 (rfl : Try.f77.body = some _) (Nat.le_of_ble_eq_true (by kernel_rfl)) (Nat.le_of_ble_eq_true (by kernel_rfl)) ?_
  intro w0 X0 Fin pv0 pb
  unfold pimpl_isPair at h
  refine Wc.seq ?_
  refine Wc.region [] [] [1] [1] [] ⟨[(1, (.ptr 1 0, []))], [(1, .cells [.int .i64 c152_.gKind, .str c152_.gName, .int .i64 c152_.gNum, .sl (List.map GTerm.c c152_.gKids)] [])], []⟩ _ (by kernel_rfl) .nil ?_
  refine Wc.seq ?_
  obtain ⟨d153_, h175, h⟩ := obind h
  refine Wc.region [{}, { r := some (.v (.bool d153_) []) }] [] [2] [] [] ⟨[(2, (.v (.bool d153_), []))], [], []⟩ _ (by kernel_rfl) (.cons (cimpl_isStruct h175) .nil) ?_
  refine Wc.ret ?_
  obtain rfl := Option.some.inj h
  exact ⟨.inl rfl, by kernel_rfl, by kernel_rfl⟩

/-- impl.copyTerm$1 -/
def pimpl_copyTerm_1 (k : Nat) (b154_ : Int) : Option Int :=
  some b154_
theorem cimpl_copyTerm_1 {k : Nat} {b154_ : Int} {r : Int} (h : pimpl_copyTerm_1 k b154_ = some r) : FnO Try.prog 104 [.v (.int .i64 b154_) []] (.v (.int .i64 r) []) [] := by
  refine FnO.of Try.func104 (rfl : Try.f104.body = some _) (Nat.le_of_ble_eq_true (by kernel_rfl)) (Nat.le_of_ble_eq_true (by kernel_rfl)) ?_
  intro w0 X0 Fin pv0 pb
  unfold pimpl_copyTerm_1 at h
  refine Wc.seq ?_
  refine Wc.region [] [] [0] [] [] ⟨[(0, (.v (.int .i64 b154_), []))], [], []⟩ _ (by kernel_rfl) .nil ?_
  refine Wc.seq ?_
  refine Wc.region [] [] [2] [] [] ⟨[(2, (.v (.int .i64 b154_), []))], [], []⟩ _ (by kernel_rfl) .nil ?_
  refine Wc.ret ?_
  obtain rfl := Option.some.inj h
  exact ⟨.inl rfl, by kernel_rfl, by kernel_rfl⟩

def pimpl_renamed_on1_pimpl_copyTerm_1_L2 (k : Nat) (rimpl_renamed_on1_pimpl_copyTerm_1 : GTerm → Option GTerm) (c164_ : GTerm) : Nat → Int → GTerm → Option (Out GTerm GTerm)
  | 0, _, _ => none
  | m + 1, b166_, c167_ =>
    if (decide (b166_ < (c164_.gKids.length : Int))) = true then
      (at' c164_.gKids b166_).bind fun c169_ =>
      (rimpl_renamed_on1_pimpl_copyTerm_1 c169_).bind fun c170_ =>
      if c167_.gKids.length + [c170_].length ≤ 1073741824 then
        pimpl_renamed_on1_pimpl_copyTerm_1_L2 k rimpl_renamed_on1_pimpl_copyTerm_1 c164_ m (wr.i64 (b166_ + 1)) (GTerm.mk c167_.gKind c167_.gName c167_.gNum (c167_.gKids ++ [c170_]))
      else none
    else
      some (.done c167_)
def pimpl_renamed_on1_pimpl_copyTerm_1_J1 (k : Nat) (rimpl_renamed_on1_pimpl_copyTerm_1 : GTerm → Option GTerm) (c164_ : GTerm) (c165_ : GTerm) : Option GTerm :=
  (pimpl_renamed_on1_pimpl_copyTerm_1_L2 k rimpl_renamed_on1_pimpl_copyTerm_1 c164_ k 0 c165_).bind fun out2 => match out2 with
  | .ret r => some r
  | .done c168_ =>
    some c168_
mutual
/-- impl.renamed -/
def pimpl_renamed_on1_pimpl_copyTerm_1 : Nat → GTerm → Option GTerm
  | 0, _ => none
  | k + 1, c164_ =>
    if (c164_.gKind == 1) = true then
      (pimpl_copyTerm_1 k c164_.gNum).bind fun b171_ =>
      pimpl_renamed_on1_pimpl_copyTerm_1_J1 k (pimpl_renamed_on1_pimpl_copyTerm_1 k) c164_ (GTerm.mk c164_.gKind c164_.gName b171_ [])
    else
      pimpl_renamed_on1_pimpl_copyTerm_1_J1 k (pimpl_renamed_on1_pimpl_copyTerm_1 k) c164_ (GTerm.mk c164_.gKind c164_.gName c164_.gNum [])
end
theorem all_pimpl_renamed_on1_pimpl_copyTerm_1 : ∀ k : Nat, (∀ {c164_ : GTerm} {r : GTerm}, pimpl_renamed_on1_pimpl_copyTerm_1 k c164_ = some r → FnO Try.prog 103 [.v (.agg [.int .i64 c164_.gKind, .str c164_.gName, .int .i64 c164_.gNum, .sl (List.map GTerm.c c164_.gKids)]) [], .v (.func 104 []) []] (.v (.agg [.int .i64 r.gKind, .str r.gName, .int .i64 r.gNum, .sl (List.map GTerm.c r.gKids)]) [(3, .app 40)]) []) := by
  intro k
  induction k with
  | zero =>
    · intro c164_ r h
      exact (onone (by rw [pimpl_renamed_on1_pimpl_copyTerm_1] at h; exact h)).elim
  | succ k ih =>
    have ih_pimpl_renamed_on1_pimpl_copyTerm_1 := @ih
    · intro c164_ r h
      rw [pimpl_renamed_on1_pimpl_copyTerm_1] at h
      refine FnO.of Try.func103 (rfl : Try.f103.body = some _) (Nat.le_of_ble_eq_true (by kernel_rfl)) (Nat.le_of_ble_eq_true (by kernel_rfl)) ?_
      intro w0 X0 Fin pv0 pb
      refine Wc.seq ?_
      refine Wc.region [] [] [1, 2, 4] [2, 4] [] ⟨[(1, (.v (.func 104 []), [])), (2, (.ptr 2 0, [])), (4, (.ptr 4 0, []))], [(2, .cells [.int .i64 c164_.gKind, .str c164_.gName, .int .i64 c164_.gNum, .sl (List.map GTerm.c c164_.gKids)] []), (4, .cells [.int .i64 0, .str (bs []), .int .i64 0, .sl (List.map GTerm.c [])] [(3, .app 40)])], []⟩ _ (by kernel_rfl) .nil ?_
      refine Wc.seq ?_
      refine Wc.region [] [] [1, 2, 4, 5] [2, 4, 5] [] ⟨[(1, (.v (.func 104 []), [])), (2, (.ptr 2 0, [])), (4, (.ptr 4 0, [])), (5, (.ptr 5 0, []))], [(2, .cells [.int .i64 c164_.gKind, .str c164_.gName, .int .i64 c164_.gNum, .sl (List.map GTerm.c c164_.gKids)] []), (4, .cells [.int .i64 0, .str (bs []), .int .i64 0, .sl (List.map GTerm.c [])] [(3, .app 40)]), (5, .cells [.int .i64 c164_.gKind, .str c164_.gName, .int .i64 c164_.gNum, .sl (List.map GTerm.c c164_.gKids)] [])], []⟩ _ (by kernel_rfl) .nil ?_
      refine Wc.seq ?_
      refine Wc.region [] [] [1, 2, 4, 5] [2, 4, 5] [] ⟨[(1, (.v (.func 104 []), [])), (2, (.ptr 2 0, [])), (4, (.ptr 4 0, [])), (5, (.ptr 5 0, []))], [(2, .cells [.int .i64 c164_.gKind, .str c164_.gName, .int .i64 c164_.gNum, .sl (List.map GTerm.c c164_.gKids)] []), (4, .cells [.int .i64 0, .str (bs []), .int .i64 0, .sl (List.map GTerm.c [])] [(3, .app 40)]), (5, .cells [.int .i64 c164_.gKind, .str c164_.gName, .int .i64 c164_.gNum, .sl (List.map GTerm.c [])] [(3, .app 40)])], []⟩ _ (by kernel_rfl) .nil ?_
      refine Wc.seqJ (fun st => ∃ (c165_ : GTerm), st = ⟨[(1, (.v (.func 104 []), [])), (2, (.ptr 2 0, [])), (4, (.ptr 4 0, [])), (5, (.ptr 5 0, []))], [(2, .cells [.int .i64 c164_.gKind, .str c164_.gName, .int .i64 c164_.gNum, .sl (List.map GTerm.c c164_.gKids)] []), (4, .cells [.int .i64 0, .str (bs []), .int .i64 0, .sl (List.map GTerm.c [])] [(3, .app 40)]), (5, .cells [.int .i64 c165_.gKind, .str c165_.gName, .int .i64 c165_.gNum, .sl (List.map GTerm.c c165_.gKids)] [(3, .app 40)])], []⟩ ∧ pimpl_renamed_on1_pimpl_copyTerm_1_J1 k (pimpl_renamed_on1_pimpl_copyTerm_1 k) c164_ c165_ = some r) ?_ ?_
      · refine Wc.seq ?_
        refine Wc.region [] [] [1, 2, 4, 5, 12] [2, 4, 5] [] ⟨[(1, (.v (.func 104 []), [])), (2, (.ptr 2 0, [])), (4, (.ptr 4 0, [])), (5, (.ptr 5 0, [])), (12, (.v (.bool (c164_.gKind == 1)), []))], [(2, .cells [.int .i64 c164_.gKind, .str c164_.gName, .int .i64 c164_.gNum, .sl (List.map GTerm.c c164_.gKids)] []), (4, .cells [.int .i64 0, .str (bs []), .int .i64 0, .sl (List.map GTerm.c [])] [(3, .app 40)]), (5, .cells [.int .i64 c164_.gKind, .str c164_.gName, .int .i64 c164_.gNum, .sl (List.map GTerm.c [])] [(3, .app 40)])], []⟩ _ (by kernel_rfl) .nil ?_
        rcases oif h with ⟨h188, h⟩ | ⟨h188, h⟩
        · refine Wc.condT h188 (by kernel_rfl) ?_
          obtain ⟨b171_, h189, h⟩ := obind h
          refine Wc.region [{}, {}, {}, { r := some (.v (.int .i64 b171_) []) }] [] [1, 2, 4, 5] [2, 4, 5] [] ⟨[(1, (.v (.func 104 []), [])), (2, (.ptr 2 0, [])), (4, (.ptr 4 0, [])), (5, (.ptr 5 0, []))], [(2, .cells [.int .i64 c164_.gKind, .str c164_.gName, .int .i64 c164_.gNum, .sl (List.map GTerm.c c164_.gKids)] []), (4, .cells [.int .i64 0, .str (bs []), .int .i64 0, .sl (List.map GTerm.c [])] [(3, .app 40)]), (5, .cells [.int .i64 c164_.gKind, .str c164_.gName, .int .i64 b171_, .sl (List.map GTerm.c [])] [(3, .app 40)])], []⟩ _ (by kernel_rfl) (.cons (cimpl_copyTerm_1 h189) .nil) ?_
          exact ⟨_, rfl, h⟩
        · refine Wc.condF h188 (by kernel_rfl) ?_
          refine Wc.fix (st' := ⟨[(1, (.v (.func 104 []), [])), (2, (.ptr 2 0, [])), (4, (.ptr 4 0, [])), (5, (.ptr 5 0, []))], [(2, .cells [.int .i64 c164_.gKind, .str c164_.gName, .int .i64 c164_.gNum, .sl (List.map GTerm.c c164_.gKids)] []), (4, .cells [.int .i64 0, .str (bs []), .int .i64 0, .sl (List.map GTerm.c [])] [(3, .app 40)]), (5, .cells [.int .i64 c164_.gKind, .str c164_.gName, .int .i64 c164_.gNum, .sl (List.map GTerm.c [])] [(3, .app 40)])], []⟩) [] [1, 2, 4, 5] [2, 4, 5] [] (by kernel_rfl) ?_
          refine Wc.skip ?_
          exact ⟨_, rfl, h⟩
      · rintro st ⟨c165_, rfl, h⟩
        refine Wc.seq ?_
        refine Wc.seq ?_
        refine Wc.region [{}, {}, { v := some (.int .i64 (c164_.gKids.length : Int)) }] [] [1, 4, 5, 19, 20, 21] [4, 5] [] ⟨[(1, (.v (.func 104 []), [])), (4, (.ptr 4 0, [])), (5, (.ptr 5 0, [])), (19, (.v (.sl (List.map GTerm.c c164_.gKids)), [])), (20, (.v (.int .i64 (c164_.gKids.length : Int)), [])), (21, (.v (.int .i64 0), []))], [(4, .cells [.int .i64 0, .str (bs []), .int .i64 0, .sl (List.map GTerm.c [])] [(3, .app 40)]), (5, .cells [.int .i64 c165_.gKind, .str c165_.gName, .int .i64 c165_.gNum, .sl (List.map GTerm.c c165_.gKids)] [(3, .app 40)])], []⟩ _ (by kernel_rfl) (.cons (len_obl GTerm.c c164_.gKids) .nil) ?_
        obtain ⟨out2, h183, h⟩ := obind h
        refine Wc.lastJ (fun st => ∃ (c168_ : GTerm), out2 = .done c168_ ∧ st = ⟨[(4, (.ptr 4 0, [])), (5, (.ptr 5 0, []))], [(4, .cells [.int .i64 0, .str (bs []), .int .i64 0, .sl (List.map GTerm.c [])] [(3, .app 40)]), (5, .cells [.int .i64 c168_.gKind, .str c168_.gName, .int .i64 c168_.gNum, .sl (List.map GTerm.c c168_.gKids)] [(3, .app 40)])], []⟩) ?_ ?_
        · refine Wc.block ?_
          refine Wc.loop (fun m st => ∃ (b166_ : Int) (c167_ : GTerm), st = ⟨[(1, (.v (.func 104 []), [])), (4, (.ptr 4 0, [])), (5, (.ptr 5 0, [])), (19, (.v (.sl (List.map GTerm.c c164_.gKids)), [])), (20, (.v (.int .i64 (c164_.gKids.length : Int)), [])), (21, (.v (.int .i64 b166_), []))], [(4, .cells [.int .i64 0, .str (bs []), .int .i64 0, .sl (List.map GTerm.c [])] [(3, .app 40)]), (5, .cells [.int .i64 c167_.gKind, .str c167_.gName, .int .i64 c167_.gNum, .sl (List.map GTerm.c c167_.gKids)] [(3, .app 40)])], []⟩ ∧ pimpl_renamed_on1_pimpl_copyTerm_1_L2 k (pimpl_renamed_on1_pimpl_copyTerm_1 k) c164_ m b166_ c167_ = some out2) ?_ k ⟨_, _, rfl, h183⟩
          rintro m st ⟨b166_, c167_, rfl, h183⟩
          cases m with
          | zero => exact (onone h183).elim
          | succ m =>
            refine Wc.seq ?_
            refine Wc.region [] [] [1, 4, 5, 19, 20, 21, 22] [4, 5] [] ⟨[(1, (.v (.func 104 []), [])), (4, (.ptr 4 0, [])), (5, (.ptr 5 0, [])), (19, (.v (.sl (List.map GTerm.c c164_.gKids)), [])), (20, (.v (.int .i64 (c164_.gKids.length : Int)), [])), (21, (.v (.int .i64 b166_), [])), (22, (.v (.bool (decide (b166_ < (c164_.gKids.length : Int)))), []))], [(4, .cells [.int .i64 0, .str (bs []), .int .i64 0, .sl (List.map GTerm.c [])] [(3, .app 40)]), (5, .cells [.int .i64 c167_.gKind, .str c167_.gName, .int .i64 c167_.gNum, .sl (List.map GTerm.c c167_.gKids)] [(3, .app 40)])], []⟩ _ (by kernel_rfl) .nil ?_
            refine Wc.seq ?_
            rcases oif h183 with ⟨h184, h183⟩ | ⟨h184, h183⟩
            · refine Wc.condT h184 (by kernel_rfl) ?_
              refine Wc.fix (st' := ⟨[(1, (.v (.func 104 []), [])), (4, (.ptr 4 0, [])), (5, (.ptr 5 0, [])), (19, (.v (.sl (List.map GTerm.c c164_.gKids)), [])), (20, (.v (.int .i64 (c164_.gKids.length : Int)), [])), (21, (.v (.int .i64 b166_), []))], [(4, .cells [.int .i64 0, .str (bs []), .int .i64 0, .sl (List.map GTerm.c [])] [(3, .app 40)]), (5, .cells [.int .i64 c167_.gKind, .str c167_.gName, .int .i64 c167_.gNum, .sl (List.map GTerm.c c167_.gKids)] [(3, .app 40)])], []⟩) [] [1, 4, 5, 19, 20, 21] [4, 5] [] (by kernel_rfl) ?_
              refine Wc.skip ?_
              refine Wc.seq ?_
              refine Wc.block ?_
              refine Wc.seq ?_
              obtain ⟨c169_, h185, h183⟩ := obind h183
              refine Wc.region [{ v := some (.vptr [.int .i64 c169_.gKind, .str c169_.gName, .int .i64 c169_.gNum, .sl (List.map GTerm.c c169_.gKids)]) }] [] [1, 4, 5, 7, 19, 20, 21] [4, 5, 7] [] ⟨[(1, (.v (.func 104 []), [])), (4, (.ptr 4 0, [])), (5, (.ptr 5 0, [])), (7, (.ptr 7 0, [])), (19, (.v (.sl (List.map GTerm.c c164_.gKids)), [])), (20, (.v (.int .i64 (c164_.gKids.length : Int)), [])), (21, (.v (.int .i64 b166_), []))], [(4, .cells [.int .i64 0, .str (bs []), .int .i64 0, .sl (List.map GTerm.c [])] [(3, .app 40)]), (5, .cells [.int .i64 c167_.gKind, .str c167_.gName, .int .i64 c167_.gNum, .sl (List.map GTerm.c c167_.gKids)] [(3, .app 40)]), (7, .cells [.int .i64 c169_.gKind, .str c169_.gName, .int .i64 c169_.gNum, .sl (List.map GTerm.c c169_.gKids)] [])], []⟩ _ (by kernel_rfl) (.cons (at_obl (c := GTerm.c) (GTerm.c_eq c169_) GTerm.c_len h185) (.cons (len_ok 4 [.int .i64 c169_.gKind, .str c169_.gName, .int .i64 c169_.gNum, .sl (List.map GTerm.c c169_.gKids)]) .nil)) ?_
              obtain ⟨c170_, h186, h183⟩ := obind h183
              obtain ⟨h187, h183⟩ := oguard h183
              refine Wc.draw hmix [{}, { md := 1 }, {}, {}, { r := some (.v (.agg [.int .i64 c170_.gKind, .str c170_.gName, .int .i64 c170_.gNum, .sl (List.map GTerm.c c170_.gKids)]) [(3, .app 40)]) }, { c := some (List.map GTerm.c [c170_]) }, { c := some (List.map GTerm.c (c167_.gKids ++ [c170_])), tk := [26] }, {}, { tk := [31] }] [] [1, 4, 5, 19, 20, 21] [4, 5] [] ⟨[(1, (.v (.func 104 []), [])), (4, (.ptr 4 0, [])), (5, (.ptr 5 0, [])), (19, (.v (.sl (List.map GTerm.c c164_.gKids)), [])), (20, (.v (.int .i64 (c164_.gKids.length : Int)), [])), (21, (.v (.int .i64 b166_), []))], [(4, .cells [.int .i64 0, .str (bs []), .int .i64 0, .sl (List.map GTerm.c [])] [(3, .app 40)]), (5, .cells [.int .i64 c167_.gKind, .str c167_.gName, .int .i64 c167_.gNum, .sl (List.map GTerm.c (c167_.gKids ++ [c170_]))] [(3, .app 40)])], []⟩ _ (by kernel_rfl) (fun X => by kernel_rfl) (.cons (ih_pimpl_renamed_on1_pimpl_copyTerm_1 h186) (.cons (cl_cons (c := GTerm.c) (x := c170_) (GTerm.c_eq c170_) (cl_nil GTerm.c)) (.cons (app_re2 GTerm.c c167_.gKids [c170_]) (.cons (app_leaf (c := GTerm.c) (ys := [c170_]) GTerm.c_leaf) (.cons (app_obl2 (c := GTerm.c) (xs := c167_.gKids) (ys := [c170_]) GTerm.c_len h187) .nil))))) ?_
              refine Wc.region [] [] [1, 4, 5, 19, 20, 21] [4, 5] [] ⟨[(1, (.v (.func 104 []), [])), (4, (.ptr 4 0, [])), (5, (.ptr 5 0, [])), (19, (.v (.sl (List.map GTerm.c c164_.gKids)), [])), (20, (.v (.int .i64 (c164_.gKids.length : Int)), [])), (21, (.v (.int .i64 (wr.i64 (b166_ + 1))), []))], [(4, .cells [.int .i64 0, .str (bs []), .int .i64 0, .sl (List.map GTerm.c [])] [(3, .app 40)]), (5, .cells [.int .i64 c167_.gKind, .str c167_.gName, .int .i64 c167_.gNum, .sl (List.map GTerm.c (c167_.gKids ++ [c170_]))] [(3, .app 40)])], []⟩ _ (by kernel_rfl) .nil ?_
              exact ⟨_, Nat.lt_succ_self _, _, _, rfl, h183⟩
            · refine Wc.condF h184 (by kernel_rfl) ?_
              refine Wc.fix (st' := ⟨[(4, (.ptr 4 0, [])), (5, (.ptr 5 0, []))], [(4, .cells [.int .i64 0, .str (bs []), .int .i64 0, .sl (List.map GTerm.c [])] [(3, .app 40)]), (5, .cells [.int .i64 c167_.gKind, .str c167_.gName, .int .i64 c167_.gNum, .sl (List.map GTerm.c c167_.gKids)] [(3, .app 40)])], []⟩) [] [4, 5] [4, 5] [] (by kernel_rfl) ?_
              refine Wc.exit ?_
              obtain rfl := Option.some.inj h183
              exact ⟨_, rfl, rfl⟩
        · rintro st ⟨c168_, rfl, rfl⟩
          refine Wc.seq ?_
          refine Wc.region [{ md := 1 }, { tk := [34] }] [] [4] [4] [] ⟨[(4, (.ptr 4 0, []))], [(4, .cells [.int .i64 c168_.gKind, .str c168_.gName, .int .i64 c168_.gNum, .sl (List.map GTerm.c c168_.gKids)] [(3, .app 40)])], []⟩ _ (by kernel_rfl) .nil ?_
          refine Wc.ret ?_
          obtain rfl := Option.some.inj h
          exact ⟨.inl rfl, by kernel_rfl, by kernel_rfl⟩
theorem cimpl_renamed_on1_pimpl_copyTerm_1 {k : Nat} {c164_ : GTerm} {r : GTerm} (h : pimpl_renamed_on1_pimpl_copyTerm_1 k c164_ = some r) : FnO Try.prog 103 [.v (.agg [.int .i64 c164_.gKind, .str c164_.gName, .int .i64 c164_.gNum, .sl (List.map GTerm.c c164_.gKids)]) [], .v (.func 104 []) []] (.v (.agg [.int .i64 r.gKind, .str r.gName, .int .i64 r.gNum, .sl (List.map GTerm.c r.gKids)]) [(3, .app 40)]) [] := (all_pimpl_renamed_on1_pimpl_copyTerm_1 k) h

/-- impl.copyTerm -/
def pimpl_copyTerm (k : Nat) (c157_ : GTerm) : Option GTerm :=
  (pimpl_renamed_on1_pimpl_copyTerm_1 k c157_).bind fun c158_ =>
  some c158_
theorem cimpl_copyTerm {k : Nat} {c157_ : GTerm} {r : GTerm} (h : pimpl_copyTerm k c157_ = some r) : FnO Try.prog 78 [.v (.agg [.int .i64 c157_.gKind, .str c157_.gName, .int .i64 c157_.gNum, .sl (List.map GTerm.c c157_.gKids)]) []] (.v (.agg [.int .i64 r.gKind, .str r.gName, .int .i64 r.gNum, .sl (List.map GTerm.c r.gKids)]) [(3, .app 40)]) [] := by
  refine FnO.of Try.func78 (rfl : Try.f78.body = some _) (Nat.le_of_ble_eq_true (by kernel_rfl)) (Nat.le_of_ble_eq_true (by kernel_rfl)) ?_
  intro w0 X0 Fin pv0 pb
  unfold pimpl_copyTerm at h
  refine Wc.seq ?_
  refine Wc.region [] [] [1, 2] [1, 2] [] ⟨[(1, (.ptr 1 0, [])), (2, (.ptr 2 0, []))], [(1, .cells [.int .i64 c157_.gKind, .str c157_.gName, .int .i64 c157_.gNum, .sl (List.map GTerm.c c157_.gKids)] []), (2, .cells [.int .i64 0, .str (bs []), .int .i64 0, .sl (List.map GTerm.c [])] [(3, .app 40)])], []⟩ _ (by kernel_rfl) .nil ?_
  refine Wc.seq ?_
  obtain ⟨c158_, h177, h⟩ := obind h
  refine Wc.region [{}, { r := some (.v (.agg [.int .i64 c158_.gKind, .str c158_.gName, .int .i64 c158_.gNum, .sl (List.map GTerm.c c158_.gKids)]) [(3, .app 40)]) }, { tk := [4] }] [] [2] [2] [] ⟨[(2, (.ptr 2 0, []))], [(2, .cells [.int .i64 c158_.gKind, .str c158_.gName, .int .i64 c158_.gNum, .sl (List.map GTerm.c c158_.gKids)] [(3, .app 40)])], []⟩ _ (by kernel_rfl) (.cons (cimpl_renamed_on1_pimpl_copyTerm_1 h177) .nil) ?_
  refine Wc.ret ?_
  obtain rfl := Option.some.inj h
  exact ⟨.inl rfl, by kernel_rfl, by kernel_rfl⟩

/-- impl.isAtom -/
def pimpl_isAtom (k : Nat) (c159_ : GTerm) (e160_ : ByteArray) : Option Bool :=
  if (c159_.gKind == 2) = true then
    some (sEq c159_.gName e160_)
  else
    some false
theorem cimpl_isAtom {k : Nat} {c159_ : GTerm} {e160_ : ByteArray} {r : Bool} (h : pimpl_isAtom k c159_ e160_ = some r) : FnO Try.prog 79 [.v (.agg [.int .i64 c159_.gKind, .str c159_.gName, .int .i64 c159_.gNum, .sl (List.map GTerm.c c159_.gKids)]) [], .v (.str e160_) []] (.v (.bool r) []) [] := by
  refine FnO.of Try.func79 (rfl : Try.f79.body = some _) (Nat.le_of_ble_eq_true (by kernel_rfl)) (Nat.le_of_ble_eq_true (by kernel_rfl)) ?_
  intro w0 X0 Fin pv0 pb
  unfold pimpl_isAtom at h
  refine Wc.seq ?_
  refine Wc.region [] [] [1, 2] [2] [] ⟨[(1, (.v (.str e160_), [])), (2, (.ptr 2 0, []))], [(2, .cells [.int .i64 c159_.gKind, .str c159_.gName, .int .i64 c159_.gNum, .sl (List.map GTerm.c c159_.gKids)] [])], []⟩ _ (by kernel_rfl) .nil ?_
  refine Wc.seq ?_
  rcases oif h with ⟨h178, h⟩ | ⟨h178, h⟩
  · refine Wc.region [{}, {}, {}, { re := some (.bool true) }] [] [4] [] [] ⟨[(4, (.v (.bool (sEq c159_.gName e160_)), []))], [], []⟩ _ (by kernel_rfl) (.cons (congrArg AV.bool h178) .nil) ?_
    refine Wc.ret ?_
    obtain rfl := Option.some.inj h
    exact ⟨.inl rfl, by kernel_rfl, by kernel_rfl⟩
  · refine Wc.region [{}, {}, {}, { re := some (.bool false) }] [] [4] [] [] ⟨[(4, (.v (.bool false), []))], [], []⟩ _ (by kernel_rfl) (.cons (congrArg AV.bool h178) .nil) ?_
    refine Wc.ret ?_
    obtain rfl := Option.some.inj h
    exact ⟨.inl rfl, by kernel_rfl, by kernel_rfl⟩

def pimpl_ItemsOf_L1 (k : Nat) : Nat → (List GTerm) → GTerm → Option (Out ((List GTerm) × Bool) ((List GTerm) × GTerm))
  | 0, _, _ => none
  | m + 1, a174_, c175_ =>
    (pimpl_isPair k c175_).bind fun d178_ =>
    if d178_ = true then
      (at' c175_.gKids 0).bind fun c179_ =>
      (pimpl_copyTerm k c179_).bind fun c180_ =>
      if a174_.length + [c180_].length ≤ 1073741824 then
        (at' c175_.gKids 1).bind fun c181_ =>
        pimpl_ItemsOf_L1 k m (a174_ ++ [c180_]) c181_
      else none
    else
      some (.done (a174_, c175_))
/-- impl.ItemsOf -/
def pimpl_ItemsOf (k : Nat) (c172_ : GTerm) : Option ((List GTerm) × Bool) :=
  (pimpl_TermOk k c172_).bind fun d173_ =>
  if (!d173_) = true then
    some ([], false)
  else
    (pimpl_ItemsOf_L1 k k [] c172_).bind fun out1 => match out1 with
    | .ret r => some r
    | .done (a176_, c177_) =>
      (pimpl_isAtom k c177_ (bs [91, 93])).bind fun d182_ =>
      if (!d182_) = true then
        some ([], false)
      else
        some (a176_, true)
theorem cimpl_ItemsOf {k : Nat} {c172_ : GTerm} {r : (List GTerm) × Bool} (h : pimpl_ItemsOf k c172_ = some r) : FnO Try.prog 36 [.v (.agg [.int .i64 c172_.gKind, .str c172_.gName, .int .i64 c172_.gNum, .sl (List.map GTerm.c c172_.gKids)]) []] (.v (.tup [.sl (List.map GTerm.c r.1), .bool r.2]) [(0, .app 40)]) [] := by
  refine FnO.of Try.func36 (rfl : Try.f36.body = some _) (Nat.le_of_ble_eq_true (by kernel_rfl)) (Nat.le_of_ble_eq_true (by kernel_rfl)) ?_
  intro w0 X0 Fin pv0 pb
  unfold pimpl_ItemsOf at h
  refine Wc.seq ?_
  refine Wc.region [] [] [1] [1] [] ⟨[(1, (.ptr 1 0, []))], [(1, .cells [.int .i64 c172_.gKind, .str c172_.gName, .int .i64 c172_.gNum, .sl (List.map GTerm.c c172_.gKids)] [])], []⟩ _ (by kernel_rfl) .nil ?_
  refine Wc.seq ?_
  refine Wc.seq ?_
  obtain ⟨d173_, h190, h⟩ := obind h
  refine Wc.region [{}, { r := some (.v (.bool d173_) []) }] [] [1, 7] [1] [] ⟨[(1, (.ptr 1 0, [])), (7, (.v (.bool (!d173_)), []))], [(1, .cells [.int .i64 c172_.gKind, .str c172_.gName, .int .i64 c172_.gNum, .sl (List.map GTerm.c c172_.gKids)] [])], []⟩ _ (by kernel_rfl) (.cons (cimpl_TermOk h190) .nil) ?_
  rcases oif h with ⟨h191, h⟩ | ⟨h191, h⟩
  · refine Wc.condT h191 (by kernel_rfl) ?_
    refine Wc.seq ?_
    refine Wc.region [] [] [2, 3] [] [] ⟨[(2, (.v (.sl (List.map GTerm.c [])), [(0, .app 40)])), (3, (.v (.bool false), []))], [], []⟩ _ (by kernel_rfl) .nil ?_
    refine Wc.ret ?_
    obtain rfl := Option.some.inj h
    exact ⟨.inl rfl, by kernel_rfl, by kernel_rfl⟩
  · refine Wc.condF h191 (by kernel_rfl) ?_
    refine Wc.fix (st' := ⟨[(1, (.ptr 1 0, []))], [(1, .cells [.int .i64 c172_.gKind, .str c172_.gName, .int .i64 c172_.gNum, .sl (List.map GTerm.c c172_.gKids)] [])], []⟩) [] [1] [1] [] (by kernel_rfl) ?_
    refine Wc.skip ?_
    refine Wc.seq ?_
    refine Wc.region [] [] [1, 4] [1] [] ⟨[(1, (.ptr 1 0, [])), (4, (.v (.sl (List.map GTerm.c [])), [(0, .app 40)]))], [(1, .cells [.int .i64 c172_.gKind, .str c172_.gName, .int .i64 c172_.gNum, .sl (List.map GTerm.c c172_.gKids)] [])], []⟩ _ (by kernel_rfl) .nil ?_
    obtain ⟨out1, h192, h⟩ := obind h
    refine Wc.seqJ (fun st => ∃ (a176_ : List GTerm) (c177_ : GTerm), out1 = .done (a176_, c177_) ∧ st = ⟨[(1, (.ptr 1 0, [])), (4, (.v (.sl (List.map GTerm.c a176_)), [(0, .app 40)]))], [(1, .cells [.int .i64 c177_.gKind, .str c177_.gName, .int .i64 c177_.gNum, .sl (List.map GTerm.c c177_.gKids)] [])], []⟩) ?_ ?_
    · refine Wc.block ?_
      refine Wc.loop (fun m st => ∃ (a174_ : List GTerm) (c175_ : GTerm), st = ⟨[(1, (.ptr 1 0, [])), (4, (.v (.sl (List.map GTerm.c a174_)), [(0, .app 40)]))], [(1, .cells [.int .i64 c175_.gKind, .str c175_.gName, .int .i64 c175_.gNum, .sl (List.map GTerm.c c175_.gKids)] [])], []⟩ ∧ pimpl_ItemsOf_L1 k m a174_ c175_ = some out1) ?_ k ⟨_, _, rfl, h192⟩
      rintro m st ⟨a174_, c175_, rfl, h192⟩
      cases m with
      | zero => exact (onone h192).elim
      | succ m =>
        refine Wc.seq ?_
        refine Wc.seq ?_
        obtain ⟨d178_, h193, h192⟩ := obind h192
        refine Wc.region [{}, { r := some (.v (.bool d178_) []) }] [] [1, 4, 9] [1] [] ⟨[(1, (.ptr 1 0, [])), (4, (.v (.sl (List.map GTerm.c a174_)), [(0, .app 40)])), (9, (.v (.bool d178_), []))], [(1, .cells [.int .i64 c175_.gKind, .str c175_.gName, .int .i64 c175_.gNum, .sl (List.map GTerm.c c175_.gKids)] [])], []⟩ _ (by kernel_rfl) (.cons (cimpl_isPair h193) .nil) ?_
        rcases oif h192 with ⟨h194, h192⟩ | ⟨h194, h192⟩
        · refine Wc.condT h194 (by kernel_rfl) ?_
          refine Wc.fix (st' := ⟨[(1, (.ptr 1 0, [])), (4, (.v (.sl (List.map GTerm.c a174_)), [(0, .app 40)]))], [(1, .cells [.int .i64 c175_.gKind, .str c175_.gName, .int .i64 c175_.gNum, .sl (List.map GTerm.c c175_.gKids)] [])], []⟩) [] [1, 4] [1] [] (by kernel_rfl) ?_
          refine Wc.skip ?_
          refine Wc.seq ?_
          refine Wc.block ?_
          obtain ⟨c179_, h195, h192⟩ := obind h192
          obtain ⟨c180_, h196, h192⟩ := obind h192
          obtain ⟨h197, h192⟩ := oguard h192
          refine Wc.region [{ tk := [4] }, {}, {}, { v := some (.vptr [.int .i64 c179_.gKind, .str c179_.gName, .int .i64 c179_.gNum, .sl (List.map GTerm.c c179_.gKids)]) }, {}, { r := some (.v (.agg [.int .i64 c180_.gKind, .str c180_.gName, .int .i64 c180_.gNum, .sl (List.map GTerm.c c180_.gKids)]) [(3, .app 40)]) }, { c := some (List.map GTerm.c [c180_]) }, { c := some (List.map GTerm.c (a174_ ++ [c180_])), tk := [14] }, { tk := [21] }] [] [1, 4] [1] [] ⟨[(1, (.ptr 1 0, [])), (4, (.v (.sl (List.map GTerm.c (a174_ ++ [c180_]))), [(0, .app 40)]))], [(1, .cells [.int .i64 c175_.gKind, .str c175_.gName, .int .i64 c175_.gNum, .sl (List.map GTerm.c c175_.gKids)] [])], []⟩ _ (by kernel_rfl) (.cons (at_obl (c := GTerm.c) (GTerm.c_eq c179_) GTerm.c_len h195) (.cons (len_ok 4 [.int .i64 c179_.gKind, .str c179_.gName, .int .i64 c179_.gNum, .sl (List.map GTerm.c c179_.gKids)]) (.cons (cimpl_copyTerm h196) (.cons (cl_cons (c := GTerm.c) (x := c180_) (GTerm.c_eq c180_) (cl_nil GTerm.c)) (.cons (app_re2 GTerm.c a174_ [c180_]) (.cons (app_leaf (c := GTerm.c) (ys := [c180_]) GTerm.c_leaf) (.cons (app_obl2 (c := GTerm.c) (xs := a174_) (ys := [c180_]) GTerm.c_len h197) .nil))))))) ?_
          obtain ⟨c181_, h198, h192⟩ := obind h192
          refine Wc.region [{}, {}, { v := some (.vptr [.int .i64 c181_.gKind, .str c181_.gName, .int .i64 c181_.gNum, .sl (List.map GTerm.c c181_.gKids)]) }] [] [1, 4] [1] [] ⟨[(1, (.ptr 1 0, [])), (4, (.v (.sl (List.map GTerm.c (a174_ ++ [c180_]))), [(0, .app 40)]))], [(1, .cells [.int .i64 c181_.gKind, .str c181_.gName, .int .i64 c181_.gNum, .sl (List.map GTerm.c c181_.gKids)] [])], []⟩ _ (by kernel_rfl) (.cons (at_obl (c := GTerm.c) (GTerm.c_eq c181_) GTerm.c_len h198) (.cons (len_ok 4 [.int .i64 c181_.gKind, .str c181_.gName, .int .i64 c181_.gNum, .sl (List.map GTerm.c c181_.gKids)]) .nil)) ?_
          exact ⟨_, Nat.lt_succ_self _, _, _, rfl, h192⟩
        · refine Wc.condF h194 (by kernel_rfl) ?_
          refine Wc.fix (st' := ⟨[(1, (.ptr 1 0, [])), (4, (.v (.sl (List.map GTerm.c a174_)), [(0, .app 40)]))], [(1, .cells [.int .i64 c175_.gKind, .str c175_.gName, .int .i64 c175_.gNum, .sl (List.map GTerm.c c175_.gKids)] [])], []⟩) [] [1, 4] [1] [] (by kernel_rfl) ?_
          refine Wc.exit ?_
          obtain rfl := Option.some.inj h192
          exact ⟨_, _, rfl, rfl⟩
    · rintro st ⟨a176_, c177_, rfl, rfl⟩
      refine Wc.seq ?_
      refine Wc.seq ?_
      obtain ⟨d182_, h199, h⟩ := obind h
      refine Wc.region [{}, { r := some (.v (.bool d182_) []) }] [] [4, 24] [] [] ⟨[(4, (.v (.sl (List.map GTerm.c a176_)), [(0, .app 40)])), (24, (.v (.bool (!d182_)), []))], [], []⟩ _ (by kernel_rfl) (.cons (cimpl_isAtom h199) .nil) ?_
      rcases oif h with ⟨h200, h⟩ | ⟨h200, h⟩
      · refine Wc.condT h200 (by kernel_rfl) ?_
        refine Wc.seq ?_
        refine Wc.region [] [] [2, 3] [] [] ⟨[(2, (.v (.sl (List.map GTerm.c [])), [(0, .app 40)])), (3, (.v (.bool false), []))], [], []⟩ _ (by kernel_rfl) .nil ?_
        refine Wc.ret ?_
        obtain rfl := Option.some.inj h
        exact ⟨.inl rfl, by kernel_rfl, by kernel_rfl⟩
      · refine Wc.condF h200 (by kernel_rfl) ?_
        refine Wc.fix (st' := ⟨[(4, (.v (.sl (List.map GTerm.c a176_)), [(0, .app 40)]))], [], []⟩) [] [4] [] [] (by kernel_rfl) ?_
        refine Wc.skip ?_
        refine Wc.seq ?_
        refine Wc.region [{ tk := [4] }, { tk := [25] }] [] [2, 3] [] [] ⟨[(2, (.v (.sl (List.map GTerm.c a176_)), [(0, .app 40)])), (3, (.v (.bool true), []))], [], []⟩ _ (by kernel_rfl) .nil ?_
        refine Wc.ret ?_
        obtain rfl := Option.some.inj h
        exact ⟨.inl rfl, by kernel_rfl, by kernel_rfl⟩

def plaws_heldTermS_L1 (k : Nat) (rlaws_heldTermS : (List GTerm) → Int → Option Int) (a183_ : List GTerm) : Nat → Int → Int → Option (Out Int Int)
  | 0, _, _ => none
  | m + 1, b185_, b186_ =>
    if (decide (b186_ < (a183_.length : Int))) = true then
      (at' a183_ b186_).bind fun c188_ =>
      if (c188_.gKind != b185_) = true then
        some (.ret (-1))
      else
        (at' a183_ b186_).bind fun c189_ =>
        (plaws_markText k (wr.i64 (b185_ + 1))).bind fun e190_ =>
        if (!(sEq c189_.gName e190_)) = true then
          some (.ret (-1))
        else
          (at' a183_ b186_).bind fun c191_ =>
          if (c191_.gNum != (wr.i64 ((wr.i64 (b185_ + 1)) + 1))) = true then
            some (.ret (-1))
          else
            (at' a183_ b186_).bind fun c192_ =>
            (rlaws_heldTermS c192_.gKids (wr.i64 ((wr.i64 ((wr.i64 (b185_ + 1)) + 1)) + 1))).bind fun b193_ =>
            if (decide (b193_ < 0)) = true then
              some (.ret (-1))
            else
              plaws_heldTermS_L1 k rlaws_heldTermS a183_ m b193_ (wr.i64 (b186_ + 1))
    else
      some (.done b185_)
mutual
/-- laws.heldTermS -/
def plaws_heldTermS : Nat → (List GTerm) → Int → Option Int
  | 0, _, _ => none
  | k + 1, a183_, b184_ =>
    (plaws_heldTermS_L1 k (plaws_heldTermS k) a183_ k b184_ 0).bind fun out1 => match out1 with
    | .ret r => some r
    | .done b187_ =>
      some b187_
end
theorem all_plaws_heldTermS : ∀ k : Nat, (∀ {a183_ : List GTerm} {b184_ : Int} {r : Int}, plaws_heldTermS k a183_ b184_ = some r → FnO Try.prog 39 [.v (.sl (List.map GTerm.c a183_)) [], .v (.int .i64 b184_) []] (.v (.int .i64 r) []) []) := by
  intro k
  induction k with
  | zero =>
    · intro a183_ b184_ r h
      exact (onone (by rw [plaws_heldTermS] at h; exact h)).elim
  | succ k ih =>
    have ih_plaws_heldTermS := @ih
    · intro a183_ b184_ r h
      rw [plaws_heldTermS] at h
      refine FnO.of Try.func39 (rfl : Try.f39.body = some _) (Nat.le_of_ble_eq_true (by kernel_rfl)) (Nat.le_of_ble_eq_true (by kernel_rfl)) ?_
      intro w0 X0 Fin pv0 pb
      refine Wc.seq ?_
      refine Wc.region [] [] [0, 1] [] [] ⟨[(0, (.v (.sl (List.map GTerm.c a183_)), [])), (1, (.v (.int .i64 b184_), []))], [], []⟩ _ (by kernel_rfl) .nil ?_
      refine Wc.seq ?_
      refine Wc.seq ?_
      refine Wc.region [] [] [0, 1, 5] [] [] ⟨[(0, (.v (.sl (List.map GTerm.c a183_)), [])), (1, (.v (.int .i64 b184_), [])), (5, (.v (.int .i64 0), []))], [], []⟩ _ (by kernel_rfl) .nil ?_
      obtain ⟨out1, h201, h⟩ := obind h
      refine Wc.lastJ (fun st => ∃ (b187_ : Int), out1 = .done b187_ ∧ st = ⟨[(1, (.v (.int .i64 b187_), []))], [], []⟩) ?_ ?_
      · refine Wc.block ?_
        refine Wc.loop (fun m st => ∃ (b185_ : Int) (b186_ : Int), st = ⟨[(0, (.v (.sl (List.map GTerm.c a183_)), [])), (1, (.v (.int .i64 b185_), [])), (5, (.v (.int .i64 b186_), []))], [], []⟩ ∧ plaws_heldTermS_L1 k (plaws_heldTermS k) a183_ m b185_ b186_ = some out1) ?_ k ⟨_, _, rfl, h201⟩
        rintro m st ⟨b185_, b186_, rfl, h201⟩
        cases m with
        | zero => exact (onone h201).elim
        | succ m =>
          refine Wc.seq ?_
          refine Wc.seq ?_
          refine Wc.region [{}, {}, { v := some (.int .i64 (a183_.length : Int)) }] [] [0, 1, 5, 9] [] [] ⟨[(0, (.v (.sl (List.map GTerm.c a183_)), [])), (1, (.v (.int .i64 b185_), [])), (5, (.v (.int .i64 b186_), [])), (9, (.v (.bool (decide (b186_ < (a183_.length : Int)))), []))], [], []⟩ _ (by kernel_rfl) (.cons (len_obl GTerm.c a183_) .nil) ?_
          rcases oif h201 with ⟨h202, h201⟩ | ⟨h202, h201⟩
          · refine Wc.condT h202 (by kernel_rfl) ?_
            refine Wc.fix (st' := ⟨[(0, (.v (.sl (List.map GTerm.c a183_)), [])), (1, (.v (.int .i64 b185_), [])), (5, (.v (.int .i64 b186_), []))], [], []⟩) [] [0, 1, 5] [] [] (by kernel_rfl) ?_
            refine Wc.skip ?_
            refine Wc.seq ?_
            refine Wc.block ?_
            refine Wc.seq ?_
            refine Wc.seq ?_
            obtain ⟨c188_, h203, h201⟩ := obind h201
            refine Wc.region [{}, {}, { v := some (.vptr [.int .i64 c188_.gKind, .str c188_.gName, .int .i64 c188_.gNum, .sl (List.map GTerm.c c188_.gKids)]) }] [] [0, 1, 5, 18] [] [] ⟨[(0, (.v (.sl (List.map GTerm.c a183_)), [])), (1, (.v (.int .i64 b185_), [])), (5, (.v (.int .i64 b186_), [])), (18, (.v (.bool (c188_.gKind != b185_)), []))], [], []⟩ _ (by kernel_rfl) (.cons (at_obl (c := GTerm.c) (GTerm.c_eq c188_) GTerm.c_len h203) (.cons (len_ok 1 [.int .i64 c188_.gKind, .str c188_.gName, .int .i64 c188_.gNum, .sl (List.map GTerm.c c188_.gKids)]) .nil)) ?_
            rcases oif h201 with ⟨h204, h201⟩ | ⟨h204, h201⟩
            · refine Wc.condT h204 (by kernel_rfl) ?_
              refine Wc.seq ?_
              refine Wc.region [] [] [4] [] [] ⟨[(4, (.v (.int .i64 (-1)), []))], [], []⟩ _ (by kernel_rfl) .nil ?_
              refine Wc.ret ?_
              obtain rfl := Option.some.inj h201
              obtain rfl := Option.some.inj h
              exact ⟨.inl rfl, by kernel_rfl, by kernel_rfl⟩
            · refine Wc.condF h204 (by kernel_rfl) ?_
              refine Wc.fix (st' := ⟨[(0, (.v (.sl (List.map GTerm.c a183_)), [])), (1, (.v (.int .i64 b185_), [])), (5, (.v (.int .i64 b186_), []))], [], []⟩) [] [0, 1, 5] [] [] (by kernel_rfl) ?_
              refine Wc.skip ?_
              refine Wc.seq ?_
              refine Wc.region [] [] [0, 1, 5] [] [] ⟨[(0, (.v (.sl (List.map GTerm.c a183_)), [])), (1, (.v (.int .i64 (wr.i64 (b185_ + 1))), [])), (5, (.v (.int .i64 b186_), []))], [], []⟩ _ (by kernel_rfl) .nil ?_
              refine Wc.seq ?_
              refine Wc.seq ?_
              obtain ⟨c189_, h205, h201⟩ := obind h201
              obtain ⟨e190_, h206, h201⟩ := obind h201
              refine Wc.draw hmix [{}, {}, { v := some (.vptr [.int .i64 c189_.gKind, .str c189_.gName, .int .i64 c189_.gNum, .sl (List.map GTerm.c c189_.gKids)]) }, {}, {}, {}, { r := some (.v (.str e190_) []) }] [] [0, 1, 5, 28] [] [] ⟨[(0, (.v (.sl (List.map GTerm.c a183_)), [])), (1, (.v (.int .i64 (wr.i64 (b185_ + 1))), [])), (5, (.v (.int .i64 b186_), [])), (28, (.v (.bool (!(sEq c189_.gName e190_))), []))], [], []⟩ _ (by kernel_rfl) (fun X => by kernel_rfl) (.cons (at_obl (c := GTerm.c) (GTerm.c_eq c189_) GTerm.c_len h205) (.cons (len_ok 1 [.str c189_.gName, .int .i64 c189_.gNum, .sl (List.map GTerm.c c189_.gKids)]) (.cons (claws_markText h206) .nil))) ?_
              rcases oif h201 with ⟨h207, h201⟩ | ⟨h207, h201⟩
              · refine Wc.condT h207 (by kernel_rfl) ?_
                refine Wc.seq ?_
                refine Wc.region [] [] [4] [] [] ⟨[(4, (.v (.int .i64 (-1)), []))], [], []⟩ _ (by kernel_rfl) .nil ?_
                refine Wc.ret ?_
                obtain rfl := Option.some.inj h201
                obtain rfl := Option.some.inj h
                exact ⟨.inl rfl, by kernel_rfl, by kernel_rfl⟩
              · refine Wc.condF h207 (by kernel_rfl) ?_
                refine Wc.fix (st' := ⟨[(0, (.v (.sl (List.map GTerm.c a183_)), [])), (1, (.v (.int .i64 (wr.i64 (b185_ + 1))), [])), (5, (.v (.int .i64 b186_), []))], [], []⟩) [] [0, 1, 5] [] [] (by kernel_rfl) ?_
                refine Wc.skip ?_
                refine Wc.seq ?_
                refine Wc.region [] [] [0, 1, 5] [] [] ⟨[(0, (.v (.sl (List.map GTerm.c a183_)), [])), (1, (.v (.int .i64 (wr.i64 ((wr.i64 (b185_ + 1)) + 1))), [])), (5, (.v (.int .i64 b186_), []))], [], []⟩ _ (by kernel_rfl) .nil ?_
                refine Wc.seq ?_
                refine Wc.seq ?_
                obtain ⟨c191_, h208, h201⟩ := obind h201
                refine Wc.region [{}, {}, { v := some (.vptr [.int .i64 c191_.gKind, .str c191_.gName, .int .i64 c191_.gNum, .sl (List.map GTerm.c c191_.gKids)]) }] [] [0, 1, 5, 37] [] [] ⟨[(0, (.v (.sl (List.map GTerm.c a183_)), [])), (1, (.v (.int .i64 (wr.i64 ((wr.i64 (b185_ + 1)) + 1))), [])), (5, (.v (.int .i64 b186_), [])), (37, (.v (.bool (c191_.gNum != (wr.i64 ((wr.i64 (b185_ + 1)) + 1)))), []))], [], []⟩ _ (by kernel_rfl) (.cons (at_obl (c := GTerm.c) (GTerm.c_eq c191_) GTerm.c_len h208) (.cons (len_ok 1 [.int .i64 c191_.gNum, .sl (List.map GTerm.c c191_.gKids)]) .nil)) ?_
                rcases oif h201 with ⟨h209, h201⟩ | ⟨h209, h201⟩
                · refine Wc.condT h209 (by kernel_rfl) ?_
                  refine Wc.seq ?_
                  refine Wc.region [] [] [4] [] [] ⟨[(4, (.v (.int .i64 (-1)), []))], [], []⟩ _ (by kernel_rfl) .nil ?_
                  refine Wc.ret ?_
                  obtain rfl := Option.some.inj h201
                  obtain rfl := Option.some.inj h
                  exact ⟨.inl rfl, by kernel_rfl, by kernel_rfl⟩
                · refine Wc.condF h209 (by kernel_rfl) ?_
                  refine Wc.fix (st' := ⟨[(0, (.v (.sl (List.map GTerm.c a183_)), [])), (1, (.v (.int .i64 (wr.i64 ((wr.i64 (b185_ + 1)) + 1))), [])), (5, (.v (.int .i64 b186_), []))], [], []⟩) [] [0, 1, 5] [] [] (by kernel_rfl) ?_
                  refine Wc.skip ?_
                  refine Wc.seq ?_
                  refine Wc.region [] [] [0, 1, 5] [] [] ⟨[(0, (.v (.sl (List.map GTerm.c a183_)), [])), (1, (.v (.int .i64 (wr.i64 ((wr.i64 ((wr.i64 (b185_ + 1)) + 1)) + 1))), [])), (5, (.v (.int .i64 b186_), []))], [], []⟩ _ (by kernel_rfl) .nil ?_
                  refine Wc.seq ?_
                  obtain ⟨c192_, h210, h201⟩ := obind h201
                  obtain ⟨b193_, h211, h201⟩ := obind h201
                  refine Wc.region [{}, {}, { v := some (.vptr [.int .i64 c192_.gKind, .str c192_.gName, .int .i64 c192_.gNum, .sl (List.map GTerm.c c192_.gKids)]) }, {}, {}, {}, { r := some (.v (.int .i64 b193_) []) }] [] [0, 1, 5] [] [] ⟨[(0, (.v (.sl (List.map GTerm.c a183_)), [])), (1, (.v (.int .i64 b193_), [])), (5, (.v (.int .i64 b186_), []))], [], []⟩ _ (by kernel_rfl) (.cons (at_obl (c := GTerm.c) (GTerm.c_eq c192_) GTerm.c_len h210) (.cons (len_ok 1 [.sl (List.map GTerm.c c192_.gKids)]) (.cons (ih_plaws_heldTermS h211) .nil))) ?_
                  refine Wc.seq ?_
                  refine Wc.region [] [] [0, 1, 5, 48] [] [] ⟨[(0, (.v (.sl (List.map GTerm.c a183_)), [])), (1, (.v (.int .i64 b193_), [])), (5, (.v (.int .i64 b186_), [])), (48, (.v (.bool (decide (b193_ < 0))), []))], [], []⟩ _ (by kernel_rfl) .nil ?_
                  rcases oif h201 with ⟨h212, h201⟩ | ⟨h212, h201⟩
                  · refine Wc.condT h212 (by kernel_rfl) ?_
                    refine Wc.seq ?_
                    refine Wc.region [] [] [4] [] [] ⟨[(4, (.v (.int .i64 (-1)), []))], [], []⟩ _ (by kernel_rfl) .nil ?_
                    refine Wc.ret ?_
                    obtain rfl := Option.some.inj h201
                    obtain rfl := Option.some.inj h
                    exact ⟨.inl rfl, by kernel_rfl, by kernel_rfl⟩
                  · refine Wc.condF h212 (by kernel_rfl) ?_
                    refine Wc.fix (st' := ⟨[(0, (.v (.sl (List.map GTerm.c a183_)), [])), (1, (.v (.int .i64 b193_), [])), (5, (.v (.int .i64 b186_), []))], [], []⟩) [] [0, 1, 5] [] [] (by kernel_rfl) ?_
                    refine Wc.skip ?_
                    refine Wc.region [] [] [0, 1, 5] [] [] ⟨[(0, (.v (.sl (List.map GTerm.c a183_)), [])), (1, (.v (.int .i64 b193_), [])), (5, (.v (.int .i64 (wr.i64 (b186_ + 1))), []))], [], []⟩ _ (by kernel_rfl) .nil ?_
                    exact ⟨_, Nat.lt_succ_self _, _, _, rfl, h201⟩
          · refine Wc.condF h202 (by kernel_rfl) ?_
            refine Wc.fix (st' := ⟨[(1, (.v (.int .i64 b185_), []))], [], []⟩) [] [1] [] [] (by kernel_rfl) ?_
            refine Wc.exit ?_
            obtain rfl := Option.some.inj h201
            exact ⟨_, rfl, rfl⟩
      · rintro st ⟨b187_, rfl, rfl⟩
        refine Wc.seq ?_
        refine Wc.region [] [] [4] [] [] ⟨[(4, (.v (.int .i64 b187_), []))], [], []⟩ _ (by kernel_rfl) .nil ?_
        refine Wc.ret ?_
        obtain rfl := Option.some.inj h
        exact ⟨.inl rfl, by kernel_rfl, by kernel_rfl⟩
theorem claws_heldTermS {k : Nat} {a183_ : List GTerm} {b184_ : Int} {r : Int} (h : plaws_heldTermS k a183_ b184_ = some r) : FnO Try.prog 39 [.v (.sl (List.map GTerm.c a183_)) [], .v (.int .i64 b184_) []] (.v (.int .i64 r) []) [] := (all_plaws_heldTermS k) h

def pimpl_renamed_on1_pimpl_copyTerm_1_d_L2 (k : Nat) (rimpl_renamed_on1_pimpl_copyTerm_1_d : GTerm → Option GTerm) (c203_ : GTerm) : Nat → Int → GTerm → Option (Out GTerm GTerm)
  | 0, _, _ => none
  | m + 1, b205_, c206_ =>
    if (decide (b205_ < (c203_.gKids.length : Int))) = true then
      (at' c203_.gKids b205_).bind fun c208_ =>
      (rimpl_renamed_on1_pimpl_copyTerm_1_d c208_).bind fun c209_ =>
      if c206_.gKids.length + [c209_].length ≤ 1073741824 then
        pimpl_renamed_on1_pimpl_copyTerm_1_d_L2 k rimpl_renamed_on1_pimpl_copyTerm_1_d c203_ m (wr.i64 (b205_ + 1)) (GTerm.mk c206_.gKind c206_.gName c206_.gNum (c206_.gKids ++ [c209_]))
      else none
    else
      some (.done c206_)
def pimpl_renamed_on1_pimpl_copyTerm_1_d_J1 (k : Nat) (rimpl_renamed_on1_pimpl_copyTerm_1_d : GTerm → Option GTerm) (c203_ : GTerm) (c204_ : GTerm) : Option GTerm :=
  (pimpl_renamed_on1_pimpl_copyTerm_1_d_L2 k rimpl_renamed_on1_pimpl_copyTerm_1_d c203_ k 0 c204_).bind fun out2 => match out2 with
  | .ret r => some r
  | .done c207_ =>
    some c207_
mutual
/-- impl.renamed -/
def pimpl_renamed_on1_pimpl_copyTerm_1_d : Nat → GTerm → Option GTerm
  | 0, _ => none
  | k + 1, c203_ =>
    if (c203_.gKind == 1) = true then
      (pimpl_copyTerm_1 k c203_.gNum).bind fun b210_ =>
      pimpl_renamed_on1_pimpl_copyTerm_1_d_J1 k (pimpl_renamed_on1_pimpl_copyTerm_1_d k) c203_ (GTerm.mk c203_.gKind c203_.gName b210_ [])
    else
      pimpl_renamed_on1_pimpl_copyTerm_1_d_J1 k (pimpl_renamed_on1_pimpl_copyTerm_1_d k) c203_ (GTerm.mk c203_.gKind c203_.gName c203_.gNum [])
end
theorem all_pimpl_renamed_on1_pimpl_copyTerm_1_d : ∀ k : Nat, (∀ {c203_ : GTerm} {r : GTerm}, pimpl_renamed_on1_pimpl_copyTerm_1_d k c203_ = some r → FnO Try.prog 103 [.v (.agg [.int .i64 c203_.gKind, .str c203_.gName, .int .i64 c203_.gNum, .sl (List.map GTerm.c c203_.gKids)]) [], .v (.func 104 []) []] (.v (.agg [.int .i64 r.gKind, .str r.gName, .int .i64 r.gNum, .slx]) [(3, .ex 40 true (List.map GTerm.c r.gKids))]) []) := by
  intro k
  induction k with
  | zero =>
    · intro c203_ r h
      exact (onone (by rw [pimpl_renamed_on1_pimpl_copyTerm_1_d] at h; exact h)).elim
  | succ k ih =>
    have ih_pimpl_renamed_on1_pimpl_copyTerm_1_d := @ih
    · intro c203_ r h
      rw [pimpl_renamed_on1_pimpl_copyTerm_1_d] at h
      refine FnO.of Try.func103 (rfl : Try.f103.body = some _) (Nat.le_of_ble_eq_true (by kernel_rfl)) (Nat.le_of_ble_eq_true (by kernel_rfl)) ?_
      intro w0 X0 Fin pv0 pb
      refine Wc.seq ?_
      refine Wc.region [] [] [1, 2, 4] [2, 4] [] ⟨[(1, (.v (.func 104 []), [])), (2, (.ptr 2 0, [])), (4, (.ptr 4 0, []))], [(2, .cells [.int .i64 c203_.gKind, .str c203_.gName, .int .i64 c203_.gNum, .sl (List.map GTerm.c c203_.gKids)] []), (4, .cells [.int .i64 0, .str (bs []), .int .i64 0, .sl (List.map GTerm.c [])] [(3, .app 40)])], []⟩ _ (by kernel_rfl) .nil ?_
      refine Wc.seq ?_
      refine Wc.region [] [] [1, 2, 4, 5] [2, 4, 5] [] ⟨[(1, (.v (.func 104 []), [])), (2, (.ptr 2 0, [])), (4, (.ptr 4 0, [])), (5, (.ptr 5 0, []))], [(2, .cells [.int .i64 c203_.gKind, .str c203_.gName, .int .i64 c203_.gNum, .sl (List.map GTerm.c c203_.gKids)] []), (4, .cells [.int .i64 0, .str (bs []), .int .i64 0, .sl (List.map GTerm.c [])] [(3, .app 40)]), (5, .cells [.int .i64 c203_.gKind, .str c203_.gName, .int .i64 c203_.gNum, .sl (List.map GTerm.c c203_.gKids)] [])], []⟩ _ (by kernel_rfl) .nil ?_
      refine Wc.seq ?_
      refine Wc.region [] [] [1, 2, 4, 5] [2, 4, 5] [] ⟨[(1, (.v (.func 104 []), [])), (2, (.ptr 2 0, [])), (4, (.ptr 4 0, [])), (5, (.ptr 5 0, []))], [(2, .cells [.int .i64 c203_.gKind, .str c203_.gName, .int .i64 c203_.gNum, .sl (List.map GTerm.c c203_.gKids)] []), (4, .cells [.int .i64 0, .str (bs []), .int .i64 0, .sl (List.map GTerm.c [])] [(3, .app 40)]), (5, .cells [.int .i64 c203_.gKind, .str c203_.gName, .int .i64 c203_.gNum, .sl (List.map GTerm.c [])] [(3, .app 40)])], []⟩ _ (by kernel_rfl) .nil ?_
      refine Wc.seqJ (fun st => ∃ (c204_ : GTerm), st = ⟨[(1, (.v (.func 104 []), [])), (2, (.ptr 2 0, [])), (4, (.ptr 4 0, [])), (5, (.ptr 5 0, []))], [(2, .cells [.int .i64 c203_.gKind, .str c203_.gName, .int .i64 c203_.gNum, .sl (List.map GTerm.c c203_.gKids)] []), (4, .cells [.int .i64 0, .str (bs []), .int .i64 0, .slx] [(3, .ex 40 true (List.map GTerm.c []))]), (5, .cells [.int .i64 c204_.gKind, .str c204_.gName, .int .i64 c204_.gNum, .slx] [(3, .ex 40 true (List.map GTerm.c c204_.gKids))])], []⟩ ∧ pimpl_renamed_on1_pimpl_copyTerm_1_d_J1 k (pimpl_renamed_on1_pimpl_copyTerm_1_d k) c203_ c204_ = some r) ?_ ?_
      · refine Wc.seq ?_
        refine Wc.region [] [] [1, 2, 4, 5, 12] [2, 4, 5] [] ⟨[(1, (.v (.func 104 []), [])), (2, (.ptr 2 0, [])), (4, (.ptr 4 0, [])), (5, (.ptr 5 0, [])), (12, (.v (.bool (c203_.gKind == 1)), []))], [(2, .cells [.int .i64 c203_.gKind, .str c203_.gName, .int .i64 c203_.gNum, .sl (List.map GTerm.c c203_.gKids)] []), (4, .cells [.int .i64 0, .str (bs []), .int .i64 0, .sl (List.map GTerm.c [])] [(3, .app 40)]), (5, .cells [.int .i64 c203_.gKind, .str c203_.gName, .int .i64 c203_.gNum, .sl (List.map GTerm.c [])] [(3, .app 40)])], []⟩ _ (by kernel_rfl) .nil ?_
        rcases oif h with ⟨h225, h⟩ | ⟨h225, h⟩
        · refine Wc.condT h225 (by kernel_rfl) ?_
          obtain ⟨b210_, h226, h⟩ := obind h
          refine Wc.region [{}, {}, {}, { r := some (.v (.int .i64 b210_) []) }] [.ow (.b 4 3) true, .ow (.b 5 3) true] [1, 2, 4, 5] [2, 4, 5] [] ⟨[(1, (.v (.func 104 []), [])), (2, (.ptr 2 0, [])), (4, (.ptr 4 0, [])), (5, (.ptr 5 0, []))], [(2, .cells [.int .i64 c203_.gKind, .str c203_.gName, .int .i64 c203_.gNum, .sl (List.map GTerm.c c203_.gKids)] []), (4, .cells [.int .i64 0, .str (bs []), .int .i64 0, .slx] [(3, .ex 40 true (List.map GTerm.c []))]), (5, .cells [.int .i64 c203_.gKind, .str c203_.gName, .int .i64 b210_, .slx] [(3, .ex 40 true (List.map GTerm.c []))])], []⟩ _ (by kernel_rfl) (.cons (cimpl_copyTerm_1 h226) .nil) ?_
          exact ⟨_, rfl, h⟩
        · refine Wc.condF h225 (by kernel_rfl) ?_
          refine Wc.fix (st' := ⟨[(1, (.v (.func 104 []), [])), (2, (.ptr 2 0, [])), (4, (.ptr 4 0, [])), (5, (.ptr 5 0, []))], [(2, .cells [.int .i64 c203_.gKind, .str c203_.gName, .int .i64 c203_.gNum, .sl (List.map GTerm.c c203_.gKids)] []), (4, .cells [.int .i64 0, .str (bs []), .int .i64 0, .slx] [(3, .ex 40 true (List.map GTerm.c []))]), (5, .cells [.int .i64 c203_.gKind, .str c203_.gName, .int .i64 c203_.gNum, .slx] [(3, .ex 40 true (List.map GTerm.c []))])], []⟩) [.ow (.b 4 3) true, .ow (.b 5 3) true] [1, 2, 4, 5] [2, 4, 5] [] (by kernel_rfl) ?_
          refine Wc.skip ?_
          exact ⟨_, rfl, h⟩
      · rintro st ⟨c204_, rfl, h⟩
        refine Wc.seq ?_
        refine Wc.seq ?_
        refine Wc.region [{}, {}, { v := some (.int .i64 (c203_.gKids.length : Int)) }] [] [1, 4, 5, 19, 20, 21] [4, 5] [] ⟨[(1, (.v (.func 104 []), [])), (4, (.ptr 4 0, [])), (5, (.ptr 5 0, [])), (19, (.v (.sl (List.map GTerm.c c203_.gKids)), [])), (20, (.v (.int .i64 (c203_.gKids.length : Int)), [])), (21, (.v (.int .i64 0), []))], [(4, .cells [.int .i64 0, .str (bs []), .int .i64 0, .slx] [(3, .ex 40 true (List.map GTerm.c []))]), (5, .cells [.int .i64 c204_.gKind, .str c204_.gName, .int .i64 c204_.gNum, .slx] [(3, .ex 40 true (List.map GTerm.c c204_.gKids))])], []⟩ _ (by kernel_rfl) (.cons (len_obl GTerm.c c203_.gKids) .nil) ?_
        obtain ⟨out2, h220, h⟩ := obind h
        refine Wc.lastJ (fun st => ∃ (c207_ : GTerm), out2 = .done c207_ ∧ st = ⟨[(4, (.ptr 4 0, [])), (5, (.ptr 5 0, []))], [(4, .cells [.int .i64 0, .str (bs []), .int .i64 0, .slx] [(3, .ex 40 true (List.map GTerm.c []))]), (5, .cells [.int .i64 c207_.gKind, .str c207_.gName, .int .i64 c207_.gNum, .slx] [(3, .ex 40 true (List.map GTerm.c c207_.gKids))])], []⟩) ?_ ?_
        · refine Wc.block ?_
          refine Wc.loop (fun m st => ∃ (b205_ : Int) (c206_ : GTerm), st = ⟨[(1, (.v (.func 104 []), [])), (4, (.ptr 4 0, [])), (5, (.ptr 5 0, [])), (19, (.v (.sl (List.map GTerm.c c203_.gKids)), [])), (20, (.v (.int .i64 (c203_.gKids.length : Int)), [])), (21, (.v (.int .i64 b205_), []))], [(4, .cells [.int .i64 0, .str (bs []), .int .i64 0, .slx] [(3, .ex 40 true (List.map GTerm.c []))]), (5, .cells [.int .i64 c206_.gKind, .str c206_.gName, .int .i64 c206_.gNum, .slx] [(3, .ex 40 true (List.map GTerm.c c206_.gKids))])], []⟩ ∧ pimpl_renamed_on1_pimpl_copyTerm_1_d_L2 k (pimpl_renamed_on1_pimpl_copyTerm_1_d k) c203_ m b205_ c206_ = some out2) ?_ k ⟨_, _, rfl, h220⟩
          rintro m st ⟨b205_, c206_, rfl, h220⟩
          cases m with
          | zero => exact (onone h220).elim
          | succ m =>
            refine Wc.seq ?_
            refine Wc.region [] [] [1, 4, 5, 19, 20, 21, 22] [4, 5] [] ⟨[(1, (.v (.func 104 []), [])), (4, (.ptr 4 0, [])), (5, (.ptr 5 0, [])), (19, (.v (.sl (List.map GTerm.c c203_.gKids)), [])), (20, (.v (.int .i64 (c203_.gKids.length : Int)), [])), (21, (.v (.int .i64 b205_), [])), (22, (.v (.bool (decide (b205_ < (c203_.gKids.length : Int)))), []))], [(4, .cells [.int .i64 0, .str (bs []), .int .i64 0, .slx] [(3, .ex 40 true (List.map GTerm.c []))]), (5, .cells [.int .i64 c206_.gKind, .str c206_.gName, .int .i64 c206_.gNum, .slx] [(3, .ex 40 true (List.map GTerm.c c206_.gKids))])], []⟩ _ (by kernel_rfl) .nil ?_
            refine Wc.seq ?_
            rcases oif h220 with ⟨h221, h220⟩ | ⟨h221, h220⟩
            · refine Wc.condT h221 (by kernel_rfl) ?_
              refine Wc.fix (st' := ⟨[(1, (.v (.func 104 []), [])), (4, (.ptr 4 0, [])), (5, (.ptr 5 0, [])), (19, (.v (.sl (List.map GTerm.c c203_.gKids)), [])), (20, (.v (.int .i64 (c203_.gKids.length : Int)), [])), (21, (.v (.int .i64 b205_), []))], [(4, .cells [.int .i64 0, .str (bs []), .int .i64 0, .slx] [(3, .ex 40 true (List.map GTerm.c []))]), (5, .cells [.int .i64 c206_.gKind, .str c206_.gName, .int .i64 c206_.gNum, .slx] [(3, .ex 40 true (List.map GTerm.c c206_.gKids))])], []⟩) [] [1, 4, 5, 19, 20, 21] [4, 5] [] (by kernel_rfl) ?_
              refine Wc.skip ?_
              refine Wc.seq ?_
              refine Wc.block ?_
              refine Wc.seq ?_
              obtain ⟨c208_, h222, h220⟩ := obind h220
              refine Wc.region [{ v := some (.vptr [.int .i64 c208_.gKind, .str c208_.gName, .int .i64 c208_.gNum, .sl (List.map GTerm.c c208_.gKids)]) }] [] [1, 4, 5, 7, 19, 20, 21] [4, 5, 7] [] ⟨[(1, (.v (.func 104 []), [])), (4, (.ptr 4 0, [])), (5, (.ptr 5 0, [])), (7, (.ptr 7 0, [])), (19, (.v (.sl (List.map GTerm.c c203_.gKids)), [])), (20, (.v (.int .i64 (c203_.gKids.length : Int)), [])), (21, (.v (.int .i64 b205_), []))], [(4, .cells [.int .i64 0, .str (bs []), .int .i64 0, .slx] [(3, .ex 40 true (List.map GTerm.c []))]), (5, .cells [.int .i64 c206_.gKind, .str c206_.gName, .int .i64 c206_.gNum, .slx] [(3, .ex 40 true (List.map GTerm.c c206_.gKids))]), (7, .cells [.int .i64 c208_.gKind, .str c208_.gName, .int .i64 c208_.gNum, .sl (List.map GTerm.c c208_.gKids)] [])], []⟩ _ (by kernel_rfl) (.cons (at_obl (c := GTerm.c) (GTerm.c_eq c208_) GTerm.c_len h222) (.cons (len_ok 4 [.int .i64 c208_.gKind, .str c208_.gName, .int .i64 c208_.gNum, .sl (List.map GTerm.c c208_.gKids)]) .nil)) ?_
              obtain ⟨c209_, h223, h220⟩ := obind h220
              obtain ⟨h224, h220⟩ := oguard h220
              refine Wc.draw hmix [{}, { md := 1 }, {}, {}, { r := some (.v (.agg [.int .i64 c209_.gKind, .str c209_.gName, .int .i64 c209_.gNum, .slx]) [(3, .ex 40 true (List.map GTerm.c c209_.gKids))]) }, { c := some (List.map GTerm.c [c209_]), tk := [29], md := 2 }, { c := some (List.map GTerm.c (c206_.gKids ++ [c209_])), tk := [26, 30], md := 2 }, {}, { tk := [31] }] [] [1, 4, 5, 19, 20, 21] [4, 5] [] ⟨[(1, (.v (.func 104 []), [])), (4, (.ptr 4 0, [])), (5, (.ptr 5 0, [])), (19, (.v (.sl (List.map GTerm.c c203_.gKids)), [])), (20, (.v (.int .i64 (c203_.gKids.length : Int)), [])), (21, (.v (.int .i64 b205_), []))], [(4, .cells [.int .i64 0, .str (bs []), .int .i64 0, .slx] [(3, .ex 40 true (List.map GTerm.c []))]), (5, .cells [.int .i64 c206_.gKind, .str c206_.gName, .int .i64 c206_.gNum, .slx] [(3, .ex 40 true (List.map GTerm.c (c206_.gKids ++ [c209_])))])], []⟩ _ (by kernel_rfl) (fun X => by kernel_rfl) (.cons (ih_pimpl_renamed_on1_pimpl_copyTerm_1_d h223) (.cons (cl_cons (c := GTerm.c) (x := c209_) (GTerm.c_eq c209_) (cl_nil GTerm.c)) (.cons (app_re2 GTerm.c c206_.gKids [c209_]) (.cons (app_obl2 (c := GTerm.c) (xs := c206_.gKids) (ys := [c209_]) GTerm.c_len h224) .nil)))) ?_
              refine Wc.region [] [] [1, 4, 5, 19, 20, 21] [4, 5] [] ⟨[(1, (.v (.func 104 []), [])), (4, (.ptr 4 0, [])), (5, (.ptr 5 0, [])), (19, (.v (.sl (List.map GTerm.c c203_.gKids)), [])), (20, (.v (.int .i64 (c203_.gKids.length : Int)), [])), (21, (.v (.int .i64 (wr.i64 (b205_ + 1))), []))], [(4, .cells [.int .i64 0, .str (bs []), .int .i64 0, .slx] [(3, .ex 40 true (List.map GTerm.c []))]), (5, .cells [.int .i64 c206_.gKind, .str c206_.gName, .int .i64 c206_.gNum, .slx] [(3, .ex 40 true (List.map GTerm.c (c206_.gKids ++ [c209_])))])], []⟩ _ (by kernel_rfl) .nil ?_
              exact ⟨_, Nat.lt_succ_self _, _, _, rfl, h220⟩
            · refine Wc.condF h221 (by kernel_rfl) ?_
              refine Wc.fix (st' := ⟨[(4, (.ptr 4 0, [])), (5, (.ptr 5 0, []))], [(4, .cells [.int .i64 0, .str (bs []), .int .i64 0, .slx] [(3, .ex 40 true (List.map GTerm.c []))]), (5, .cells [.int .i64 c206_.gKind, .str c206_.gName, .int .i64 c206_.gNum, .slx] [(3, .ex 40 true (List.map GTerm.c c206_.gKids))])], []⟩) [] [4, 5] [4, 5] [] (by kernel_rfl) ?_
              refine Wc.exit ?_
              obtain rfl := Option.some.inj h220
              exact ⟨_, rfl, rfl⟩
        · rintro st ⟨c207_, rfl, rfl⟩
          refine Wc.seq ?_
          refine Wc.region [{ md := 1 }, { tk := [34] }] [] [4] [4] [] ⟨[(4, (.ptr 4 0, []))], [(4, .cells [.int .i64 c207_.gKind, .str c207_.gName, .int .i64 c207_.gNum, .slx] [(3, .ex 40 true (List.map GTerm.c c207_.gKids))])], []⟩ _ (by kernel_rfl) .nil ?_
          refine Wc.ret ?_
          obtain rfl := Option.some.inj h
          exact ⟨.inl rfl, by kernel_rfl, by kernel_rfl⟩
theorem cimpl_renamed_on1_pimpl_copyTerm_1_d {k : Nat} {c203_ : GTerm} {r : GTerm} (h : pimpl_renamed_on1_pimpl_copyTerm_1_d k c203_ = some r) : FnO Try.prog 103 [.v (.agg [.int .i64 c203_.gKind, .str c203_.gName, .int .i64 c203_.gNum, .sl (List.map GTerm.c c203_.gKids)]) [], .v (.func 104 []) []] (.v (.agg [.int .i64 r.gKind, .str r.gName, .int .i64 r.gNum, .slx]) [(3, .ex 40 true (List.map GTerm.c r.gKids))]) [] := (all_pimpl_renamed_on1_pimpl_copyTerm_1_d k) h

/-- impl.copyTerm -/
def pimpl_copyTerm_d (k : Nat) (c201_ : GTerm) : Option GTerm :=
  (pimpl_renamed_on1_pimpl_copyTerm_1_d k c201_).bind fun c202_ =>
  some c202_
theorem cimpl_copyTerm_d {k : Nat} {c201_ : GTerm} {r : GTerm} (h : pimpl_copyTerm_d k c201_ = some r) : FnO Try.prog 78 [.v (.agg [.int .i64 c201_.gKind, .str c201_.gName, .int .i64 c201_.gNum, .sl (List.map GTerm.c c201_.gKids)]) []] (.v (.agg [.int .i64 r.gKind, .str r.gName, .int .i64 r.gNum, .slx]) [(3, .ex 40 true (List.map GTerm.c r.gKids))]) [] := by
  refine FnO.of Try.func78 (rfl : Try.f78.body = some _) (Nat.le_of_ble_eq_true (by kernel_rfl)) (Nat.le_of_ble_eq_true (by kernel_rfl)) ?_
  intro w0 X0 Fin pv0 pb
  unfold pimpl_copyTerm_d at h
  refine Wc.seq ?_
  refine Wc.region [] [] [1, 2] [1, 2] [] ⟨[(1, (.ptr 1 0, [])), (2, (.ptr 2 0, []))], [(1, .cells [.int .i64 c201_.gKind, .str c201_.gName, .int .i64 c201_.gNum, .sl (List.map GTerm.c c201_.gKids)] []), (2, .cells [.int .i64 0, .str (bs []), .int .i64 0, .sl (List.map GTerm.c [])] [(3, .app 40)])], []⟩ _ (by kernel_rfl) .nil ?_
  refine Wc.seq ?_
  obtain ⟨c202_, h219, h⟩ := obind h
  refine Wc.region [{}, { r := some (.v (.agg [.int .i64 c202_.gKind, .str c202_.gName, .int .i64 c202_.gNum, .slx]) [(3, .ex 40 true (List.map GTerm.c c202_.gKids))]) }, { tk := [4] }] [] [2] [2] [] ⟨[(2, (.ptr 2 0, []))], [(2, .cells [.int .i64 c202_.gKind, .str c202_.gName, .int .i64 c202_.gNum, .slx] [(3, .ex 40 true (List.map GTerm.c c202_.gKids))])], []⟩ _ (by kernel_rfl) (.cons (cimpl_renamed_on1_pimpl_copyTerm_1_d h219) .nil) ?_
  refine Wc.ret ?_
  obtain rfl := Option.some.inj h
  exact ⟨.inl rfl, by kernel_rfl, by kernel_rfl⟩

def plaws_toTermS_d_L1 (k : Nat) (rlaws_toTerm_d : GTerm → Option GTerm) (rlaws_toTermS_d : (List GTerm) → Option (List GTerm)) (a209_ : List GTerm) : Nat → (List GTerm) → Int → Option (Out (List GTerm) (List GTerm))
  | 0, _, _ => none
  | m + 1, a210_, b211_ =>
    if (decide (b211_ < (a209_.length : Int))) = true then
      (at' a209_ b211_).bind fun c213_ =>
      (rlaws_toTerm_d c213_).bind fun c214_ =>
      (at' a210_ b211_).bind fun c215_ =>
      plaws_toTermS_d_L1 k rlaws_toTerm_d rlaws_toTermS_d a209_ m (a210_.set ((b211_).toNat) c214_) (wr.i64 (b211_ + 1))
    else
      some (.done a210_)
mutual
/-- laws.toTerm -/
def plaws_toTerm_d : Nat → GTerm → Option GTerm
  | 0, _ => none
  | k + 1, c207_ =>
    (plaws_toTermS_d k c207_.gKids).bind fun g208_ =>
    some (GTerm.mk c207_.gKind c207_.gName c207_.gNum g208_)
/-- laws.toTermS -/
def plaws_toTermS_d : Nat → (List GTerm) → Option (List GTerm)
  | 0, _ => none
  | k + 1, a209_ =>
    if 0 ≤ (a209_.length : Int) ∧ (a209_.length : Int) ≤ 1073741824 then
      (plaws_toTermS_d_L1 k (plaws_toTerm_d k) (plaws_toTermS_d k) a209_ k (List.replicate ((a209_.length : Int)).toNat (GTerm.mk 0 (bs []) 0 [])) 0).bind fun out1 => match out1 with
      | .ret r => some r
      | .done a212_ =>
        some a212_
    else none
end
theorem all_plaws_toTerm_d : ∀ k : Nat, (∀ {c207_ : GTerm} {r : GTerm}, plaws_toTerm_d k c207_ = some r → FnO Try.prog 35 [.v (.agg [.int .i64 c207_.gKind, .str c207_.gName, .int .i64 c207_.gNum, .sl (List.map GTerm.c c207_.gKids)]) []] (.v (.agg [.int .i64 r.gKind, .str r.gName, .int .i64 r.gNum, .slx]) [(3, .ex 40 true (List.map GTerm.c r.gKids))]) []) ∧
    (∀ {a209_ : List GTerm} {r : (List GTerm)}, plaws_toTermS_d k a209_ = some r → FnO Try.prog 42 [.v (.sl (List.map GTerm.c a209_)) []] (.v (.slx) [(0, .ex 40 true (List.map GTerm.c r))]) []) := by
  intro k
  induction k with
  | zero =>
    refine ⟨?_, ?_⟩
    · intro c207_ r h
      exact (onone (by rw [plaws_toTerm_d] at h; exact h)).elim
    · intro a209_ r h
      exact (onone (by rw [plaws_toTermS_d] at h; exact h)).elim
  | succ k ih =>
    obtain ⟨ih_plaws_toTerm_d, ih_plaws_toTermS_d⟩ := ih
    refine ⟨?_, ?_⟩
    · intro c207_ r h
      rw [plaws_toTerm_d] at h
      refine FnO.of Try.func35 (rfl : Try.f35.body = some _) (Nat.le_of_ble_eq_true (by kernel_rfl)) (Nat.le_of_ble_eq_true (by kernel_rfl)) ?_
      intro w0 X0 Fin pv0 pb
      refine Wc.seq ?_
      refine Wc.region [] [] [1, 2] [1, 2] [] ⟨[(1, (.ptr 1 0, [])), (2, (.ptr 2 0, []))], [(1, .cells [.int .i64 c207_.gKind, .str c207_.gName, .int .i64 c207_.gNum, .sl (List.map GTerm.c c207_.gKids)] []), (2, .cells [.int .i64 0, .str (bs []), .int .i64 0, .sl (List.map GTerm.c [])] [(3, .app 40)])], []⟩ _ (by kernel_rfl) .nil ?_
      refine Wc.seq ?_
      refine Wc.region [] [] [1, 2, 3] [1, 2, 3] [] ⟨[(1, (.ptr 1 0, [])), (2, (.ptr 2 0, [])), (3, (.ptr 3 0, []))], [(1, .cells [.int .i64 c207_.gKind, .str c207_.gName, .int .i64 c207_.gNum, .sl (List.map GTerm.c c207_.gKids)] []), (2, .cells [.int .i64 0, .str (bs []), .int .i64 0, .sl (List.map GTerm.c [])] [(3, .app 40)]), (3, .cells [.int .i64 0, .str (bs []), .int .i64 0, .sl (List.map GTerm.c [])] [(3, .app 40)])], []⟩ _ (by kernel_rfl) .nil ?_
      refine Wc.seq ?_
      refine Wc.region [] [] [1, 2, 3] [1, 2, 3] [] ⟨[(1, (.ptr 1 0, [])), (2, (.ptr 2 0, [])), (3, (.ptr 3 0, []))], [(1, .cells [.int .i64 c207_.gKind, .str c207_.gName, .int .i64 c207_.gNum, .sl (List.map GTerm.c c207_.gKids)] []), (2, .cells [.int .i64 0, .str (bs []), .int .i64 0, .sl (List.map GTerm.c [])] [(3, .app 40)]), (3, .cells [.int .i64 c207_.gKind, .str (bs []), .int .i64 0, .sl (List.map GTerm.c [])] [(3, .app 40)])], []⟩ _ (by kernel_rfl) .nil ?_
      refine Wc.seq ?_
      refine Wc.region [] [] [1, 2, 3] [1, 2, 3] [] ⟨[(1, (.ptr 1 0, [])), (2, (.ptr 2 0, [])), (3, (.ptr 3 0, []))], [(1, .cells [.int .i64 c207_.gKind, .str c207_.gName, .int .i64 c207_.gNum, .sl (List.map GTerm.c c207_.gKids)] []), (2, .cells [.int .i64 0, .str (bs []), .int .i64 0, .sl (List.map GTerm.c [])] [(3, .app 40)]), (3, .cells [.int .i64 c207_.gKind, .str c207_.gName, .int .i64 0, .sl (List.map GTerm.c [])] [(3, .app 40)])], []⟩ _ (by kernel_rfl) .nil ?_
      refine Wc.seq ?_
      refine Wc.region [] [] [1, 2, 3] [1, 2, 3] [] ⟨[(1, (.ptr 1 0, [])), (2, (.ptr 2 0, [])), (3, (.ptr 3 0, []))], [(1, .cells [.int .i64 c207_.gKind, .str c207_.gName, .int .i64 c207_.gNum, .sl (List.map GTerm.c c207_.gKids)] []), (2, .cells [.int .i64 0, .str (bs []), .int .i64 0, .sl (List.map GTerm.c [])] [(3, .app 40)]), (3, .cells [.int .i64 c207_.gKind, .str c207_.gName, .int .i64 c207_.gNum, .sl (List.map GTerm.c [])] [(3, .app 40)])], []⟩ _ (by kernel_rfl) .nil ?_
      refine Wc.seq ?_
      obtain ⟨g208_, h224, h⟩ := obind h
      refine Wc.region [{}, {}, { r := some (.v (.slx) [(0, .ex 40 true (List.map GTerm.c g208_))]) }, {}, { tk := [15] }] [] [2, 3] [2, 3] [] ⟨[(2, (.ptr 2 0, [])), (3, (.ptr 3 0, []))], [(2, .cells [.int .i64 0, .str (bs []), .int .i64 0, .sl (List.map GTerm.c [])] [(3, .app 40)]), (3, .cells [.int .i64 c207_.gKind, .str c207_.gName, .int .i64 c207_.gNum, .slx] [(3, .ex 40 true (List.map GTerm.c g208_))])], []⟩ _ (by kernel_rfl) (.cons (ih_plaws_toTermS_d h224) .nil) ?_
      refine Wc.seq ?_
      refine Wc.region [{ md := 1 }, { tk := [17] }] [] [2] [2] [] ⟨[(2, (.ptr 2 0, []))], [(2, .cells [.int .i64 c207_.gKind, .str c207_.gName, .int .i64 c207_.gNum, .slx] [(3, .ex 40 true (List.map GTerm.c g208_))])], []⟩ _ (by kernel_rfl) .nil ?_
      refine Wc.ret ?_
      obtain rfl := Option.some.inj h
      exact ⟨.inl rfl, by kernel_rfl, by kernel_rfl⟩
    · intro a209_ r h
      rw [plaws_toTermS_d] at h
      refine FnO.of Try.func42 (rfl : Try.f42.body = some _) (Nat.le_of_ble_eq_true (by kernel_rfl)) (Nat.le_of_ble_eq_true (by kernel_rfl)) ?_
      intro w0 X0 Fin pv0 pb
      refine Wc.seq ?_
      refine Wc.region [] [] [0] [] [] ⟨[(0, (.v (.sl (List.map GTerm.c a209_)), []))], [], []⟩ _ (by kernel_rfl) .nil ?_
      refine Wc.seq ?_
      obtain ⟨h225, h⟩ := oguard h
      refine Wc.region [{}, { v := some (.int .i64 (a209_.length : Int)) }, { c := some (List.map GTerm.c (List.replicate ((a209_.length : Int)).toNat (GTerm.mk 0 (bs []) 0 []))) }, { tk := [7] }] [] [0, 3] [] [] ⟨[(0, (.v (.sl (List.map GTerm.c a209_)), [])), (3, (.v (.slx), [(0, .ex 40 true (List.map GTerm.c (List.replicate ((a209_.length : Int)).toNat (GTerm.mk 0 (bs []) 0 []))))]))], [], []⟩ _ (by kernel_rfl) (.cons (len_obl GTerm.c a209_) (.cons (rep_re (c := GTerm.c) (GTerm.c_eq (GTerm.mk 0 (bs []) 0 [])) ((a209_.length : Int)).toNat) (.cons (ms_obl h225) .nil))) ?_
      refine Wc.seq ?_
      refine Wc.seq ?_
      refine Wc.region [] [] [0, 3, 4] [] [] ⟨[(0, (.v (.sl (List.map GTerm.c a209_)), [])), (3, (.v (.slx), [(0, .ex 40 true (List.map GTerm.c (List.replicate ((a209_.length : Int)).toNat (GTerm.mk 0 (bs []) 0 []))))])), (4, (.v (.int .i64 0), []))], [], []⟩ _ (by kernel_rfl) .nil ?_
      obtain ⟨out1, h226, h⟩ := obind h
      refine Wc.lastJ (fun st => ∃ (a212_ : List GTerm), out1 = .done a212_ ∧ st = ⟨[(3, (.v (.slx), [(0, .ex 40 true (List.map GTerm.c a212_))]))], [], []⟩) ?_ ?_
      · refine Wc.block ?_
        refine Wc.loop (fun m st => ∃ (a210_ : List GTerm) (b211_ : Int), st = ⟨[(0, (.v (.sl (List.map GTerm.c a209_)), [])), (3, (.v (.slx), [(0, .ex 40 true (List.map GTerm.c a210_))])), (4, (.v (.int .i64 b211_), []))], [], []⟩ ∧ plaws_toTermS_d_L1 k (plaws_toTerm_d k) (plaws_toTermS_d k) a209_ m a210_ b211_ = some out1) ?_ k ⟨_, _, rfl, h226⟩
        rintro m st ⟨a210_, b211_, rfl, h226⟩
        cases m with
        | zero => exact (onone h226).elim
        | succ m =>
          refine Wc.seq ?_
          refine Wc.seq ?_
          refine Wc.region [{}, {}, { v := some (.int .i64 (a209_.length : Int)) }] [] [0, 3, 4, 11] [] [] ⟨[(0, (.v (.sl (List.map GTerm.c a209_)), [])), (3, (.v (.slx), [(0, .ex 40 true (List.map GTerm.c a210_))])), (4, (.v (.int .i64 b211_), [])), (11, (.v (.bool (decide (b211_ < (a209_.length : Int)))), []))], [], []⟩ _ (by kernel_rfl) (.cons (len_obl GTerm.c a209_) .nil) ?_
          rcases oif h226 with ⟨h227, h226⟩ | ⟨h227, h226⟩
          · refine Wc.condT h227 (by kernel_rfl) ?_
            refine Wc.fix (st' := ⟨[(0, (.v (.sl (List.map GTerm.c a209_)), [])), (3, (.v (.slx), [(0, .ex 40 true (List.map GTerm.c a210_))])), (4, (.v (.int .i64 b211_), []))], [], []⟩) [] [0, 3, 4] [] [] (by kernel_rfl) ?_
            refine Wc.skip ?_
            refine Wc.seq ?_
            refine Wc.block ?_
            obtain ⟨c213_, h228, h226⟩ := obind h226
            obtain ⟨c214_, h229, h226⟩ := obind h226
            obtain ⟨c215_, h230, h226⟩ := obind h226
            refine Wc.region [{}, {}, {}, {}, { v := some (.vptr [.int .i64 c213_.gKind, .str c213_.gName, .int .i64 c213_.gNum, .sl (List.map GTerm.c c213_.gKids)]) }, {}, { r := some (.v (.agg [.int .i64 c214_.gKind, .str c214_.gName, .int .i64 c214_.gNum, .slx]) [(3, .ex 40 true (List.map GTerm.c c214_.gKids))]) }, {}, { c := some (List.map GTerm.c (a210_.set ((b211_).toNat) c214_)), tk := [20] }] [] [0, 3, 4] [] [] ⟨[(0, (.v (.sl (List.map GTerm.c a209_)), [])), (3, (.v (.slx), [(0, .ex 40 true (List.map GTerm.c (a210_.set ((b211_).toNat) c214_)))])), (4, (.v (.int .i64 b211_), []))], [], []⟩ _ (by kernel_rfl) (.cons (at_obl (c := GTerm.c) (GTerm.c_eq c213_) GTerm.c_len h228) (.cons (len_ok 4 [.int .i64 c213_.gKind, .str c213_.gName, .int .i64 c213_.gNum, .sl (List.map GTerm.c c213_.gKids)]) (.cons (ih_plaws_toTerm_d h229) (.cons (ix_obl (c := GTerm.c) GTerm.c_len h230) (.cons (mod_obl (off := 0) (new := [.int .i64 c214_.gKind, .str c214_.gName, .int .i64 c214_.gNum, .sl (List.map GTerm.c c214_.gKids)]) (c := GTerm.c) (GTerm.c_eq c215_) (GTerm.c_eq c214_) (at'_spec h230).2 rfl) (.cons (st_obl (sz := 4) (off := 0) (s := 4) (c := GTerm.c) (GTerm.c_eq c215_) (at'_spec h230).2 rfl (Nat.le_of_ble_eq_true rfl)) .nil)))))) ?_
            refine Wc.region [] [] [0, 3, 4] [] [] ⟨[(0, (.v (.sl (List.map GTerm.c a209_)), [])), (3, (.v (.slx), [(0, .ex 40 true (List.map GTerm.c (a210_.set ((b211_).toNat) c214_)))])), (4, (.v (.int .i64 (wr.i64 (b211_ + 1))), []))], [], []⟩ _ (by kernel_rfl) .nil ?_
            exact ⟨_, Nat.lt_succ_self _, _, _, rfl, h226⟩
          · refine Wc.condF h227 (by kernel_rfl) ?_
            refine Wc.fix (st' := ⟨[(3, (.v (.slx), [(0, .ex 40 true (List.map GTerm.c a210_))]))], [], []⟩) [] [3] [] [] (by kernel_rfl) ?_
            refine Wc.exit ?_
            obtain rfl := Option.some.inj h226
            exact ⟨_, rfl, rfl⟩
      · rintro st ⟨a212_, rfl, rfl⟩
        refine Wc.seq ?_
        refine Wc.region [{ tk := [3] }, { tk := [22] }] [] [2] [] [] ⟨[(2, (.v (.slx), [(0, .ex 40 true (List.map GTerm.c a212_))]))], [], []⟩ _ (by kernel_rfl) .nil ?_
        refine Wc.ret ?_
        obtain rfl := Option.some.inj h
        exact ⟨.inl rfl, by kernel_rfl, by kernel_rfl⟩
theorem claws_toTerm_d {k : Nat} {c207_ : GTerm} {r : GTerm} (h : plaws_toTerm_d k c207_ = some r) : FnO Try.prog 35 [.v (.agg [.int .i64 c207_.gKind, .str c207_.gName, .int .i64 c207_.gNum, .sl (List.map GTerm.c c207_.gKids)]) []] (.v (.agg [.int .i64 r.gKind, .str r.gName, .int .i64 r.gNum, .slx]) [(3, .ex 40 true (List.map GTerm.c r.gKids))]) [] := (all_plaws_toTerm_d k).1 h
theorem claws_toTermS_d {k : Nat} {a209_ : List GTerm} {r : (List GTerm)} (h : plaws_toTermS_d k a209_ = some r) : FnO Try.prog 42 [.v (.sl (List.map GTerm.c a209_)) []] (.v (.slx) [(0, .ex 40 true (List.map GTerm.c r))]) [] := (all_plaws_toTerm_d k).2 h

def pimpl_ItemsOf_d_L1 (k : Nat) : Nat → (List GTerm) → GTerm → Option (Out ((List GTerm) × Bool) ((List GTerm) × GTerm))
  | 0, _, _ => none
  | m + 1, a212_, c213_ =>
    (pimpl_isPair k c213_).bind fun d216_ =>
    if d216_ = true then
      (at' c213_.gKids 0).bind fun c217_ =>
      (pimpl_copyTerm_d k c217_).bind fun c218_ =>
      if a212_.length + [c218_].length ≤ 1073741824 then
        (at' c213_.gKids 1).bind fun c219_ =>
        pimpl_ItemsOf_d_L1 k m (a212_ ++ [c218_]) c219_
      else none
    else
      some (.done (a212_, c213_))
/-- impl.ItemsOf -/
def pimpl_ItemsOf_d (k : Nat) (c210_ : GTerm) : Option ((List GTerm) × Bool) :=
  (pimpl_TermOk k c210_).bind fun d211_ =>
  if (!d211_) = true then
    some ([], false)
  else
    (pimpl_ItemsOf_d_L1 k k [] c210_).bind fun out1 => match out1 with
    | .ret r => some r
    | .done (a214_, c215_) =>
      (pimpl_isAtom k c215_ (bs [91, 93])).bind fun d220_ =>
      if (!d220_) = true then
        some ([], false)
      else
        some (a214_, true)
theorem cimpl_ItemsOf_d {k : Nat} {c210_ : GTerm} {r : (List GTerm) × Bool} (h : pimpl_ItemsOf_d k c210_ = some r) : FnO Try.prog 36 [.v (.agg [.int .i64 c210_.gKind, .str c210_.gName, .int .i64 c210_.gNum, .sl (List.map GTerm.c c210_.gKids)]) []] (.v (.tup [.slx, .bool r.2]) [(0, .ex 40 true (List.map GTerm.c r.1))]) [] := by
  refine FnO.of Try.func36 (rfl : Try.f36.body = some _) (Nat.le_of_ble_eq_true (by kernel_rfl)) (Nat.le_of_ble_eq_true (by kernel_rfl)) ?_
  intro w0 X0 Fin pv0 pb
  unfold pimpl_ItemsOf_d at h
  refine Wc.seq ?_
  refine Wc.region [] [] [1] [1] [] ⟨[(1, (.ptr 1 0, []))], [(1, .cells [.int .i64 c210_.gKind, .str c210_.gName, .int .i64 c210_.gNum, .sl (List.map GTerm.c c210_.gKids)] [])], []⟩ _ (by kernel_rfl) .nil ?_
  refine Wc.seq ?_
  refine Wc.seq ?_
  obtain ⟨d211_, h229, h⟩ := obind h
  refine Wc.region [{}, { r := some (.v (.bool d211_) []) }] [] [1, 7] [1] [] ⟨[(1, (.ptr 1 0, [])), (7, (.v (.bool (!d211_)), []))], [(1, .cells [.int .i64 c210_.gKind, .str c210_.gName, .int .i64 c210_.gNum, .sl (List.map GTerm.c c210_.gKids)] [])], []⟩ _ (by kernel_rfl) (.cons (cimpl_TermOk h229) .nil) ?_
  rcases oif h with ⟨h230, h⟩ | ⟨h230, h⟩
  · refine Wc.condT h230 (by kernel_rfl) ?_
    refine Wc.seq ?_
    refine Wc.region [] [] [2, 3] [] [] ⟨[(2, (.v (.sl (List.map GTerm.c [])), [(0, .app 40)])), (3, (.v (.bool false), []))], [], []⟩ _ (by kernel_rfl) .nil ?_
    refine Wc.fix (st' := ⟨[(2, (.v (.slx), [(0, .ex 40 true (List.map GTerm.c []))])), (3, (.v (.bool false), []))], [], []⟩) [.ow (.t 2 0) true] [2, 3] [] [] (by kernel_rfl) ?_
    refine Wc.ret ?_
    obtain rfl := Option.some.inj h
    exact ⟨.inl rfl, by kernel_rfl, by kernel_rfl⟩
  · refine Wc.condF h230 (by kernel_rfl) ?_
    refine Wc.fix (st' := ⟨[(1, (.ptr 1 0, []))], [(1, .cells [.int .i64 c210_.gKind, .str c210_.gName, .int .i64 c210_.gNum, .sl (List.map GTerm.c c210_.gKids)] [])], []⟩) [] [1] [1] [] (by kernel_rfl) ?_
    refine Wc.skip ?_
    refine Wc.seq ?_
    refine Wc.region [] [] [1, 4] [1] [] ⟨[(1, (.ptr 1 0, [])), (4, (.v (.sl (List.map GTerm.c [])), [(0, .app 40)]))], [(1, .cells [.int .i64 c210_.gKind, .str c210_.gName, .int .i64 c210_.gNum, .sl (List.map GTerm.c c210_.gKids)] [])], []⟩ _ (by kernel_rfl) .nil ?_
    obtain ⟨out1, h231, h⟩ := obind h
    refine Wc.seqJ (fun st => ∃ (a214_ : List GTerm) (c215_ : GTerm), out1 = .done (a214_, c215_) ∧ st = ⟨[(1, (.ptr 1 0, [])), (4, (.v (.slx), [(0, .ex 40 true (List.map GTerm.c a214_))]))], [(1, .cells [.int .i64 c215_.gKind, .str c215_.gName, .int .i64 c215_.gNum, .sl (List.map GTerm.c c215_.gKids)] [])], []⟩) ?_ ?_
    · refine Wc.block ?_
      refine Wc.fix (st' := ⟨[(1, (.ptr 1 0, [])), (4, (.v (.slx), [(0, .ex 40 true (List.map GTerm.c []))]))], [(1, .cells [.int .i64 c210_.gKind, .str c210_.gName, .int .i64 c210_.gNum, .sl (List.map GTerm.c c210_.gKids)] [])], []⟩) [.ow (.t 4 0) true] [1, 4] [1] [] (by kernel_rfl) ?_
      refine Wc.loop (fun m st => ∃ (a212_ : List GTerm) (c213_ : GTerm), st = ⟨[(1, (.ptr 1 0, [])), (4, (.v (.slx), [(0, .ex 40 true (List.map GTerm.c a212_))]))], [(1, .cells [.int .i64 c213_.gKind, .str c213_.gName, .int .i64 c213_.gNum, .sl (List.map GTerm.c c213_.gKids)] [])], []⟩ ∧ pimpl_ItemsOf_d_L1 k m a212_ c213_ = some out1) ?_ k ⟨_, _, rfl, h231⟩
      rintro m st ⟨a212_, c213_, rfl, h231⟩
      cases m with
      | zero => exact (onone h231).elim
      | succ m =>
        refine Wc.seq ?_
        refine Wc.seq ?_
        obtain ⟨d216_, h232, h231⟩ := obind h231
        refine Wc.region [{}, { r := some (.v (.bool d216_) []) }] [] [1, 4, 9] [1] [] ⟨[(1, (.ptr 1 0, [])), (4, (.v (.slx), [(0, .ex 40 true (List.map GTerm.c a212_))])), (9, (.v (.bool d216_), []))], [(1, .cells [.int .i64 c213_.gKind, .str c213_.gName, .int .i64 c213_.gNum, .sl (List.map GTerm.c c213_.gKids)] [])], []⟩ _ (by kernel_rfl) (.cons (cimpl_isPair h232) .nil) ?_
        rcases oif h231 with ⟨h233, h231⟩ | ⟨h233, h231⟩
        · refine Wc.condT h233 (by kernel_rfl) ?_
          refine Wc.fix (st' := ⟨[(1, (.ptr 1 0, [])), (4, (.v (.slx), [(0, .ex 40 true (List.map GTerm.c a212_))]))], [(1, .cells [.int .i64 c213_.gKind, .str c213_.gName, .int .i64 c213_.gNum, .sl (List.map GTerm.c c213_.gKids)] [])], []⟩) [] [1, 4] [1] [] (by kernel_rfl) ?_
          refine Wc.skip ?_
          refine Wc.seq ?_
          refine Wc.block ?_
          obtain ⟨c217_, h234, h231⟩ := obind h231
          obtain ⟨c218_, h235, h231⟩ := obind h231
          obtain ⟨h236, h231⟩ := oguard h231
          refine Wc.region [{ tk := [4] }, {}, {}, { v := some (.vptr [.int .i64 c217_.gKind, .str c217_.gName, .int .i64 c217_.gNum, .sl (List.map GTerm.c c217_.gKids)]) }, {}, { r := some (.v (.agg [.int .i64 c218_.gKind, .str c218_.gName, .int .i64 c218_.gNum, .slx]) [(3, .ex 40 true (List.map GTerm.c c218_.gKids))]) }, { c := some (List.map GTerm.c [c218_]), tk := [19], md := 2 }, { c := some (List.map GTerm.c (a212_ ++ [c218_])), tk := [14, 20], md := 2 }, { tk := [21] }] [] [1, 4] [1] [] ⟨[(1, (.ptr 1 0, [])), (4, (.v (.slx), [(0, .ex 40 true (List.map GTerm.c (a212_ ++ [c218_])))]))], [(1, .cells [.int .i64 c213_.gKind, .str c213_.gName, .int .i64 c213_.gNum, .sl (List.map GTerm.c c213_.gKids)] [])], []⟩ _ (by kernel_rfl) (.cons (at_obl (c := GTerm.c) (GTerm.c_eq c217_) GTerm.c_len h234) (.cons (len_ok 4 [.int .i64 c217_.gKind, .str c217_.gName, .int .i64 c217_.gNum, .sl (List.map GTerm.c c217_.gKids)]) (.cons (cimpl_copyTerm_d h235) (.cons (cl_cons (c := GTerm.c) (x := c218_) (GTerm.c_eq c218_) (cl_nil GTerm.c)) (.cons (app_re2 GTerm.c a212_ [c218_]) (.cons (app_obl2 (c := GTerm.c) (xs := a212_) (ys := [c218_]) GTerm.c_len h236) .nil)))))) ?_
          obtain ⟨c219_, h237, h231⟩ := obind h231
          refine Wc.region [{}, {}, { v := some (.vptr [.int .i64 c219_.gKind, .str c219_.gName, .int .i64 c219_.gNum, .sl (List.map GTerm.c c219_.gKids)]) }] [] [1, 4] [1] [] ⟨[(1, (.ptr 1 0, [])), (4, (.v (.slx), [(0, .ex 40 true (List.map GTerm.c (a212_ ++ [c218_])))]))], [(1, .cells [.int .i64 c219_.gKind, .str c219_.gName, .int .i64 c219_.gNum, .sl (List.map GTerm.c c219_.gKids)] [])], []⟩ _ (by kernel_rfl) (.cons (at_obl (c := GTerm.c) (GTerm.c_eq c219_) GTerm.c_len h237) (.cons (len_ok 4 [.int .i64 c219_.gKind, .str c219_.gName, .int .i64 c219_.gNum, .sl (List.map GTerm.c c219_.gKids)]) .nil)) ?_
          exact ⟨_, Nat.lt_succ_self _, _, _, rfl, h231⟩
        · refine Wc.condF h233 (by kernel_rfl) ?_
          refine Wc.fix (st' := ⟨[(1, (.ptr 1 0, [])), (4, (.v (.slx), [(0, .ex 40 true (List.map GTerm.c a212_))]))], [(1, .cells [.int .i64 c213_.gKind, .str c213_.gName, .int .i64 c213_.gNum, .sl (List.map GTerm.c c213_.gKids)] [])], []⟩) [] [1, 4] [1] [] (by kernel_rfl) ?_
          refine Wc.exit ?_
          obtain rfl := Option.some.inj h231
          exact ⟨_, _, rfl, rfl⟩
    · rintro st ⟨a214_, c215_, rfl, rfl⟩
      refine Wc.seq ?_
      refine Wc.seq ?_
      obtain ⟨d220_, h238, h⟩ := obind h
      refine Wc.region [{}, { r := some (.v (.bool d220_) []) }] [] [4, 24] [] [] ⟨[(4, (.v (.slx), [(0, .ex 40 true (List.map GTerm.c a214_))])), (24, (.v (.bool (!d220_)), []))], [], []⟩ _ (by kernel_rfl) (.cons (cimpl_isAtom h238) .nil) ?_
      rcases oif h with ⟨h239, h⟩ | ⟨h239, h⟩
      · refine Wc.condT h239 (by kernel_rfl) ?_
        refine Wc.seq ?_
        refine Wc.region [] [] [2, 3] [] [] ⟨[(2, (.v (.sl (List.map GTerm.c [])), [(0, .app 40)])), (3, (.v (.bool false), []))], [], []⟩ _ (by kernel_rfl) .nil ?_
        refine Wc.fix (st' := ⟨[(2, (.v (.slx), [(0, .ex 40 true (List.map GTerm.c []))])), (3, (.v (.bool false), []))], [], []⟩) [.ow (.t 2 0) true] [2, 3] [] [] (by kernel_rfl) ?_
        refine Wc.ret ?_
        obtain rfl := Option.some.inj h
        exact ⟨.inl rfl, by kernel_rfl, by kernel_rfl⟩
      · refine Wc.condF h239 (by kernel_rfl) ?_
        refine Wc.fix (st' := ⟨[(4, (.v (.slx), [(0, .ex 40 true (List.map GTerm.c a214_))]))], [], []⟩) [] [4] [] [] (by kernel_rfl) ?_
        refine Wc.skip ?_
        refine Wc.seq ?_
        refine Wc.region [{ tk := [4] }, { tk := [25] }] [] [2, 3] [] [] ⟨[(2, (.v (.slx), [(0, .ex 40 true (List.map GTerm.c a214_))])), (3, (.v (.bool true), []))], [], []⟩ _ (by kernel_rfl) .nil ?_
        refine Wc.ret ?_
        obtain rfl := Option.some.inj h
        exact ⟨.inl rfl, by kernel_rfl, by kernel_rfl⟩
end Go.Proofs.Ytjgagbajgdmocaa

/- What the functions do, part 1. -/
import Derived.Test.YtjgagbajgdmocaaTy
set_option linter.unusedVariables false
set_option linter.unusedSimpArgs false
namespace Go.Proofs.Ytjgagbajgdmocaa
open Go.RowKit Go.Bv
def plaws_eqTermS_L1 (k : Nat) (rlaws_eqTerm : GTerm → GTerm → Option Bool) (rlaws_eqTermS : (List GTerm) → (List GTerm) → Option Bool) (a4_ : List GTerm) (a5_ : List GTerm) : Nat → Int → Option (Out Bool Unit)
  | 0, _ => none
  | m + 1, b6_ =>
    if (decide (b6_ < (a4_.length : Int))) = true then
      (at' a4_ b6_).bind fun c7_ =>
      (at' a5_ b6_).bind fun c8_ =>
      (rlaws_eqTerm c7_ c8_).bind fun d9_ =>
      if (!d9_) = true then
        some (.ret false)
      else
        plaws_eqTermS_L1 k rlaws_eqTerm rlaws_eqTermS a4_ a5_ m (wr.i64 (b6_ + 1))
    else
      some (.done ())
mutual
/-- laws.eqTerm -/
def plaws_eqTerm : Nat → GTerm → GTerm → Option Bool
  | 0, _, _ => none
  | k + 1, c1_, c2_ =>
    if (c1_.gKind != c2_.gKind) = true then
      some false
    else
      if (!(sEq c1_.gName c2_.gName)) = true then
        some false
      else
        if (c1_.gNum != c2_.gNum) = true then
          some false
        else
          (plaws_eqTermS k c1_.gKids c2_.gKids).bind fun d3_ =>
          if (!d3_) = true then
            some false
          else
            some true
/-- laws.eqTermS -/
def plaws_eqTermS : Nat → (List GTerm) → (List GTerm) → Option Bool
  | 0, _, _ => none
  | k + 1, a4_, a5_ =>
    if ((a4_.length : Int) != (a5_.length : Int)) = true then
      some false
    else
      (plaws_eqTermS_L1 k (plaws_eqTerm k) (plaws_eqTermS k) a4_ a5_ k 0).bind fun out1 => match out1 with
      | .ret r => some r
      | .done () =>
        some true
end
theorem all_plaws_eqTerm : ∀ k : Nat, (∀ {c1_ : GTerm} {c2_ : GTerm} {r : Bool}, plaws_eqTerm k c1_ c2_ = some r → FnO Try.prog 18 [.v (.agg [.int .i64 c1_.gKind, .str c1_.gName, .int .i64 c1_.gNum, .sl (List.map GTerm.c c1_.gKids)]) [], .v (.agg [.int .i64 c2_.gKind, .str c2_.gName, .int .i64 c2_.gNum, .sl (List.map GTerm.c c2_.gKids)]) []] (.v (.bool r) []) []) ∧
    (∀ {a4_ : List GTerm} {a5_ : List GTerm} {r : Bool}, plaws_eqTermS k a4_ a5_ = some r → FnO Try.prog 37 [.v (.sl (List.map GTerm.c a4_)) [], .v (.sl (List.map GTerm.c a5_)) []] (.v (.bool r) []) []) := by
  intro k
  induction k with
  | zero =>
    refine ⟨?_, ?_⟩
    · intro c1_ c2_ r h
      exact (onone (by rw [plaws_eqTerm] at h; exact h)).elim
    · intro a4_ a5_ r h
      exact (onone (by rw [plaws_eqTermS] at h; exact h)).elim
  | succ k ih =>
    obtain ⟨ih_plaws_eqTerm, ih_plaws_eqTermS⟩ := ih
    refine ⟨?_, ?_⟩
    · intro c1_ c2_ r h
      rw [plaws_eqTerm] at h
      refine FnO.of Try.func18 (rfl : Try.f18.body = some _) (Nat.le_of_ble_eq_true (by kernel_rfl)) (Nat.le_of_ble_eq_true (by kernel_rfl)) ?_
      intro w0 X0 Fin pv0 pb
      refine Wc.seq ?_
      refine Wc.region [] [] [2, 3] [2, 3] [] ⟨[(2, (.ptr 2 0, [])), (3, (.ptr 3 0, []))], [(2, .cells [.int .i64 c1_.gKind, .str c1_.gName, .int .i64 c1_.gNum, .sl (List.map GTerm.c c1_.gKids)] []), (3, .cells [.int .i64 c2_.gKind, .str c2_.gName, .int .i64 c2_.gNum, .sl (List.map GTerm.c c2_.gKids)] [])], []⟩ _ (by kernel_rfl) .nil ?_
      refine Wc.seq ?_
      refine Wc.seq ?_
      refine Wc.region [] [] [2, 3, 9] [2, 3] [] ⟨[(2, (.ptr 2 0, [])), (3, (.ptr 3 0, [])), (9, (.v (.bool (c1_.gKind != c2_.gKind)), []))], [(2, .cells [.int .i64 c1_.gKind, .str c1_.gName, .int .i64 c1_.gNum, .sl (List.map GTerm.c c1_.gKids)] []), (3, .cells [.int .i64 c2_.gKind, .str c2_.gName, .int .i64 c2_.gNum, .sl (List.map GTerm.c c2_.gKids)] [])], []⟩ _ (by kernel_rfl) .nil ?_
      rcases oif h with ⟨h1, h⟩ | ⟨h1, h⟩
      · refine Wc.condT h1 (by kernel_rfl) ?_
        refine Wc.seq ?_
        refine Wc.region [] [] [4] [] [] ⟨[(4, (.v (.bool false), []))], [], []⟩ _ (by kernel_rfl) .nil ?_
        refine Wc.ret ?_
        obtain rfl := Option.some.inj h
        exact ⟨.inl rfl, by kernel_rfl, by kernel_rfl⟩
      · refine Wc.condF h1 (by kernel_rfl) ?_
        refine Wc.fix (st' := ⟨[(2, (.ptr 2 0, [])), (3, (.ptr 3 0, []))], [(2, .cells [.int .i64 c1_.gKind, .str c1_.gName, .int .i64 c1_.gNum, .sl (List.map GTerm.c c1_.gKids)] []), (3, .cells [.int .i64 c2_.gKind, .str c2_.gName, .int .i64 c2_.gNum, .sl (List.map GTerm.c c2_.gKids)] [])], []⟩) [] [2, 3] [2, 3] [] (by kernel_rfl) ?_
        refine Wc.skip ?_
        refine Wc.seq ?_
        refine Wc.seq ?_
        refine Wc.region [] [] [2, 3, 14] [2, 3] [] ⟨[(2, (.ptr 2 0, [])), (3, (.ptr 3 0, [])), (14, (.v (.bool (!(sEq c1_.gName c2_.gName))), []))], [(2, .cells [.int .i64 c1_.gKind, .str c1_.gName, .int .i64 c1_.gNum, .sl (List.map GTerm.c c1_.gKids)] []), (3, .cells [.int .i64 c2_.gKind, .str c2_.gName, .int .i64 c2_.gNum, .sl (List.map GTerm.c c2_.gKids)] [])], []⟩ _ (by kernel_rfl) .nil ?_
        rcases oif h with ⟨h2, h⟩ | ⟨h2, h⟩
        · refine Wc.condT h2 (by kernel_rfl) ?_
          refine Wc.seq ?_
          refine Wc.region [] [] [4] [] [] ⟨[(4, (.v (.bool false), []))], [], []⟩ _ (by kernel_rfl) .nil ?_
          refine Wc.ret ?_
          obtain rfl := Option.some.inj h
          exact ⟨.inl rfl, by kernel_rfl, by kernel_rfl⟩
        · refine Wc.condF h2 (by kernel_rfl) ?_
          refine Wc.fix (st' := ⟨[(2, (.ptr 2 0, [])), (3, (.ptr 3 0, []))], [(2, .cells [.int .i64 c1_.gKind, .str c1_.gName, .int .i64 c1_.gNum, .sl (List.map GTerm.c c1_.gKids)] []), (3, .cells [.int .i64 c2_.gKind, .str c2_.gName, .int .i64 c2_.gNum, .sl (List.map GTerm.c c2_.gKids)] [])], []⟩) [] [2, 3] [2, 3] [] (by kernel_rfl) ?_
          refine Wc.skip ?_
          refine Wc.seq ?_
          refine Wc.seq ?_
          refine Wc.region [] [] [2, 3, 19] [2, 3] [] ⟨[(2, (.ptr 2 0, [])), (3, (.ptr 3 0, [])), (19, (.v (.bool (c1_.gNum != c2_.gNum)), []))], [(2, .cells [.int .i64 c1_.gKind, .str c1_.gName, .int .i64 c1_.gNum, .sl (List.map GTerm.c c1_.gKids)] []), (3, .cells [.int .i64 c2_.gKind, .str c2_.gName, .int .i64 c2_.gNum, .sl (List.map GTerm.c c2_.gKids)] [])], []⟩ _ (by kernel_rfl) .nil ?_
          rcases oif h with ⟨h3, h⟩ | ⟨h3, h⟩
          · refine Wc.condT h3 (by kernel_rfl) ?_
            refine Wc.seq ?_
            refine Wc.region [] [] [4] [] [] ⟨[(4, (.v (.bool false), []))], [], []⟩ _ (by kernel_rfl) .nil ?_
            refine Wc.ret ?_
            obtain rfl := Option.some.inj h
            exact ⟨.inl rfl, by kernel_rfl, by kernel_rfl⟩
          · refine Wc.condF h3 (by kernel_rfl) ?_
            refine Wc.fix (st' := ⟨[(2, (.ptr 2 0, [])), (3, (.ptr 3 0, []))], [(2, .cells [.int .i64 c1_.gKind, .str c1_.gName, .int .i64 c1_.gNum, .sl (List.map GTerm.c c1_.gKids)] []), (3, .cells [.int .i64 c2_.gKind, .str c2_.gName, .int .i64 c2_.gNum, .sl (List.map GTerm.c c2_.gKids)] [])], []⟩) [] [2, 3] [2, 3] [] (by kernel_rfl) ?_
            refine Wc.skip ?_
            refine Wc.seq ?_
            refine Wc.seq ?_
            obtain ⟨d3_, h4, h⟩ := obind h
            refine Wc.region [{}, {}, {}, {}, { r := some (.v (.bool d3_) []) }] [] [25] [] [] ⟨[(25, (.v (.bool (!d3_)), []))], [], []⟩ _ (by kernel_rfl) (.cons (ih_plaws_eqTermS h4) .nil) ?_
            rcases oif h with ⟨h5, h⟩ | ⟨h5, h⟩
            · refine Wc.condT h5 (by kernel_rfl) ?_
              refine Wc.seq ?_
              refine Wc.region [] [] [4] [] [] ⟨[(4, (.v (.bool false), []))], [], []⟩ _ (by kernel_rfl) .nil ?_
              refine Wc.ret ?_
              obtain rfl := Option.some.inj h
              exact ⟨.inl rfl, by kernel_rfl, by kernel_rfl⟩
            · refine Wc.condF h5 (by kernel_rfl) ?_
              refine Wc.fix (st' := ⟨[], [], []⟩) [] [] [] [] (by kernel_rfl) ?_
              refine Wc.skip ?_
              refine Wc.seq ?_
              refine Wc.region [] [] [4] [] [] ⟨[(4, (.v (.bool true), []))], [], []⟩ _ (by kernel_rfl) .nil ?_
              refine Wc.ret ?_
              obtain rfl := Option.some.inj h
              exact ⟨.inl rfl, by kernel_rfl, by kernel_rfl⟩
    · intro a4_ a5_ r h
      rw [plaws_eqTermS] at h
      refine FnO.of Try.func37 (rfl : Try.f37.body = some _) (Nat.le_of_ble_eq_true (by kernel_rfl)) (Nat.le_of_ble_eq_true (by kernel_rfl)) ?_
      intro w0 X0 Fin pv0 pb
      refine Wc.seq ?_
      refine Wc.region [] [] [0, 1] [] [] ⟨[(0, (.v (.sl (List.map GTerm.c a4_)), [])), (1, (.v (.sl (List.map GTerm.c a5_)), []))], [], []⟩ _ (by kernel_rfl) .nil ?_
      refine Wc.seq ?_
      refine Wc.seq ?_
      refine Wc.region [{}, { v := some (.int .i64 (a4_.length : Int)) }, {}, { v := some (.int .i64 (a5_.length : Int)) }] [] [0, 1, 10] [] [] ⟨[(0, (.v (.sl (List.map GTerm.c a4_)), [])), (1, (.v (.sl (List.map GTerm.c a5_)), [])), (10, (.v (.bool ((a4_.length : Int) != (a5_.length : Int))), []))], [], []⟩ _ (by kernel_rfl) (.cons (len_obl GTerm.c a4_) (.cons (len_obl GTerm.c a5_) .nil)) ?_
      rcases oif h with ⟨h6, h⟩ | ⟨h6, h⟩
      · refine Wc.condT h6 (by kernel_rfl) ?_
        refine Wc.seq ?_
        refine Wc.region [] [] [4] [] [] ⟨[(4, (.v (.bool false), []))], [], []⟩ _ (by kernel_rfl) .nil ?_
        refine Wc.ret ?_
        obtain rfl := Option.some.inj h
        exact ⟨.inl rfl, by kernel_rfl, by kernel_rfl⟩
      · refine Wc.condF h6 (by kernel_rfl) ?_
        refine Wc.fix (st' := ⟨[(0, (.v (.sl (List.map GTerm.c a4_)), [])), (1, (.v (.sl (List.map GTerm.c a5_)), []))], [], []⟩) [] [0, 1] [] [] (by kernel_rfl) ?_
        refine Wc.skip ?_
        refine Wc.seq ?_
        refine Wc.seq ?_
        refine Wc.region [] [] [0, 1, 5] [] [] ⟨[(0, (.v (.sl (List.map GTerm.c a4_)), [])), (1, (.v (.sl (List.map GTerm.c a5_)), [])), (5, (.v (.int .i64 0), []))], [], []⟩ _ (by kernel_rfl) .nil ?_
        obtain ⟨out1, h7, h⟩ := obind h
        refine Wc.lastJ (fun st => out1 = .done () ∧ st = ⟨[], [], []⟩) ?_ ?_
        · refine Wc.block ?_
          refine Wc.loop (fun m st => ∃ (b6_ : Int), st = ⟨[(0, (.v (.sl (List.map GTerm.c a4_)), [])), (1, (.v (.sl (List.map GTerm.c a5_)), [])), (5, (.v (.int .i64 b6_), []))], [], []⟩ ∧ plaws_eqTermS_L1 k (plaws_eqTerm k) (plaws_eqTermS k) a4_ a5_ m b6_ = some out1) ?_ k ⟨_, rfl, h7⟩
          rintro m st ⟨b6_, rfl, h7⟩
          cases m with
          | zero => exact (onone h7).elim
          | succ m =>
            refine Wc.seq ?_
            refine Wc.seq ?_
            refine Wc.region [{}, {}, { v := some (.int .i64 (a4_.length : Int)) }] [] [0, 1, 5, 14] [] [] ⟨[(0, (.v (.sl (List.map GTerm.c a4_)), [])), (1, (.v (.sl (List.map GTerm.c a5_)), [])), (5, (.v (.int .i64 b6_), [])), (14, (.v (.bool (decide (b6_ < (a4_.length : Int)))), []))], [], []⟩ _ (by kernel_rfl) (.cons (len_obl GTerm.c a4_) .nil) ?_
            rcases oif h7 with ⟨h8, h7⟩ | ⟨h8, h7⟩
            · refine Wc.condT h8 (by kernel_rfl) ?_
              refine Wc.fix (st' := ⟨[(0, (.v (.sl (List.map GTerm.c a4_)), [])), (1, (.v (.sl (List.map GTerm.c a5_)), [])), (5, (.v (.int .i64 b6_), []))], [], []⟩) [] [0, 1, 5] [] [] (by kernel_rfl) ?_
              refine Wc.skip ?_
              refine Wc.seq ?_
              refine Wc.block ?_
              refine Wc.seq ?_
              obtain ⟨c7_, h9, h7⟩ := obind h7
              obtain ⟨c8_, h10, h7⟩ := obind h7
              obtain ⟨d9_, h11, h7⟩ := obind h7
              refine Wc.draw hmix [{}, {}, { v := some (.vptr [.int .i64 c7_.gKind, .str c7_.gName, .int .i64 c7_.gNum, .sl (List.map GTerm.c c7_.gKids)]) }, {}, {}, {}, { v := some (.vptr [.int .i64 c8_.gKind, .str c8_.gName, .int .i64 c8_.gNum, .sl (List.map GTerm.c c8_.gKids)]) }, {}, { r := some (.v (.bool d9_) []) }] [] [0, 1, 5, 26] [] [] ⟨[(0, (.v (.sl (List.map GTerm.c a4_)), [])), (1, (.v (.sl (List.map GTerm.c a5_)), [])), (5, (.v (.int .i64 b6_), [])), (26, (.v (.bool (!d9_)), []))], [], []⟩ _ (by kernel_rfl) (fun X => by kernel_rfl) (.cons (at_obl (c := GTerm.c) (GTerm.c_eq c7_) GTerm.c_len h9) (.cons (len_ok 4 [.int .i64 c7_.gKind, .str c7_.gName, .int .i64 c7_.gNum, .sl (List.map GTerm.c c7_.gKids)]) (.cons (at_obl (c := GTerm.c) (GTerm.c_eq c8_) GTerm.c_len h10) (.cons (len_ok 4 [.int .i64 c8_.gKind, .str c8_.gName, .int .i64 c8_.gNum, .sl (List.map GTerm.c c8_.gKids)]) (.cons (ih_plaws_eqTerm h11) .nil))))) ?_
              rcases oif h7 with ⟨h12, h7⟩ | ⟨h12, h7⟩
              · refine Wc.condT h12 (by kernel_rfl) ?_
                refine Wc.seq ?_
                refine Wc.region [] [] [4] [] [] ⟨[(4, (.v (.bool false), []))], [], []⟩ _ (by kernel_rfl) .nil ?_
                refine Wc.ret ?_
                obtain rfl := Option.some.inj h7
                obtain rfl := Option.some.inj h
                exact ⟨.inl rfl, by kernel_rfl, by kernel_rfl⟩
              · refine Wc.condF h12 (by kernel_rfl) ?_
                refine Wc.fix (st' := ⟨[(0, (.v (.sl (List.map GTerm.c a4_)), [])), (1, (.v (.sl (List.map GTerm.c a5_)), [])), (5, (.v (.int .i64 b6_), []))], [], []⟩) [] [0, 1, 5] [] [] (by kernel_rfl) ?_
                refine Wc.skip ?_
                refine Wc.region [] [] [0, 1, 5] [] [] ⟨[(0, (.v (.sl (List.map GTerm.c a4_)), [])), (1, (.v (.sl (List.map GTerm.c a5_)), [])), (5, (.v (.int .i64 (wr.i64 (b6_ + 1))), []))], [], []⟩ _ (by kernel_rfl) .nil ?_
                exact ⟨_, Nat.lt_succ_self _, _, rfl, h7⟩
            · refine Wc.condF h8 (by kernel_rfl) ?_
              refine Wc.fix (st' := ⟨[], [], []⟩) [] [] [] [] (by kernel_rfl) ?_
              refine Wc.exit ?_
              obtain rfl := Option.some.inj h7
              exact ⟨rfl, rfl⟩
        · rintro st ⟨rfl, rfl⟩
          refine Wc.seq ?_
          refine Wc.region [] [] [4] [] [] ⟨[(4, (.v (.bool true), []))], [], []⟩ _ (by kernel_rfl) .nil ?_
          refine Wc.ret ?_
          obtain rfl := Option.some.inj h
          exact ⟨.inl rfl, by kernel_rfl, by kernel_rfl⟩
theorem claws_eqTerm {k : Nat} {c1_ : GTerm} {c2_ : GTerm} {r : Bool} (h : plaws_eqTerm k c1_ c2_ = some r) : FnO Try.prog 18 [.v (.agg [.int .i64 c1_.gKind, .str c1_.gName, .int .i64 c1_.gNum, .sl (List.map GTerm.c c1_.gKids)]) [], .v (.agg [.int .i64 c2_.gKind, .str c2_.gName, .int .i64 c2_.gNum, .sl (List.map GTerm.c c2_.gKids)]) []] (.v (.bool r) []) [] := (all_plaws_eqTerm k).1 h
theorem claws_eqTermS {k : Nat} {a4_ : List GTerm} {a5_ : List GTerm} {r : Bool} (h : plaws_eqTermS k a4_ a5_ = some r) : FnO Try.prog 37 [.v (.sl (List.map GTerm.c a4_)) [], .v (.sl (List.map GTerm.c a5_)) []] (.v (.bool r) []) [] := (all_plaws_eqTerm k).2 h

def plaws_markText_L1 (k : Nat) : Nat → Int → ByteArray → Option (Out ByteArray ByteArray)
  | 0, _, _ => none
  | m + 1, b11_, e12_ =>
    if (decide (b11_ > 0)) = true then
      if (10 : Int) ≠ 0 then
        if sumOk (strOfNums [wr.u8 (wr.i64 (48 + (Int.tmod b11_ 10)))]) e12_ then
          if (10 : Int) ≠ 0 then
            plaws_markText_L1 k m (wr.i64 (Int.tdiv b11_ 10)) ((strOfNums [wr.u8 (wr.i64 (48 + (Int.tmod b11_ 10)))]) ++ e12_)
          else none
        else none
      else none
    else
      some (.done e12_)
/-- laws.markText -/
def plaws_markText (k : Nat) (b10_ : Int) : Option ByteArray :=
  if (decide (b10_ ≤ 0)) = true then
    some (bs [109, 48])
  else
    (plaws_markText_L1 k k b10_ (bs [])).bind fun out1 => match out1 with
    | .ret r => some r
    | .done e13_ =>
      if sumOk (bs [109]) e13_ then
        some ((bs [109]) ++ e13_)
      else none
theorem claws_markText {k : Nat} {b10_ : Int} {r : ByteArray} (h : plaws_markText k b10_ = some r) : FnO Try.prog 80 [.v (.int .i64 b10_) []] (.v (.str r) []) [] := by
  refine FnO.of Try.func80 (rfl : Try.f80.body = some _) (Nat.le_of_ble_eq_true (by kernel_rfl)) (Nat.le_of_ble_eq_true (by kernel_rfl)) ?_
  intro w0 X0 Fin pv0 pb
  unfold plaws_markText at h
  refine Wc.seq ?_
  refine Wc.region [] [] [0] [] [] ⟨[(0, (.v (.int .i64 b10_), []))], [], []⟩ _ (by kernel_rfl) .nil ?_
  refine Wc.seq ?_
  refine Wc.seq ?_
  refine Wc.region [] [] [0, 5] [] [] ⟨[(0, (.v (.int .i64 b10_), [])), (5, (.v (.bool (decide (b10_ ≤ 0))), []))], [], []⟩ _ (by kernel_rfl) .nil ?_
  rcases oif h with ⟨h13, h⟩ | ⟨h13, h⟩
  · refine Wc.condT h13 (by kernel_rfl) ?_
    refine Wc.seq ?_
    refine Wc.region [] [] [2] [] [] ⟨[(2, (.v (.str (bs [109, 48])), []))], [], []⟩ _ (by kernel_rfl) .nil ?_
    refine Wc.ret ?_
    obtain rfl := Option.some.inj h
    exact ⟨.inl rfl, by kernel_rfl, by kernel_rfl⟩
  · refine Wc.condF h13 (by kernel_rfl) ?_
    refine Wc.fix (st' := ⟨[(0, (.v (.int .i64 b10_), []))], [], []⟩) [] [0] [] [] (by kernel_rfl) ?_
    refine Wc.skip ?_
    refine Wc.seq ?_
    refine Wc.region [] [] [0, 3] [] [] ⟨[(0, (.v (.int .i64 b10_), [])), (3, (.v (.str (bs [])), []))], [], []⟩ _ (by kernel_rfl) .nil ?_
    obtain ⟨out1, h14, h⟩ := obind h
    refine Wc.seqJ (fun st => ∃ (e13_ : ByteArray), out1 = .done e13_ ∧ st = ⟨[(3, (.v (.str e13_), []))], [], []⟩) ?_ ?_
    · refine Wc.block ?_
      refine Wc.loop (fun m st => ∃ (b11_ : Int) (e12_ : ByteArray), st = ⟨[(0, (.v (.int .i64 b11_), [])), (3, (.v (.str e12_), []))], [], []⟩ ∧ plaws_markText_L1 k m b11_ e12_ = some out1) ?_ k ⟨_, _, rfl, h14⟩
      rintro m st ⟨b11_, e12_, rfl, h14⟩
      cases m with
      | zero => exact (onone h14).elim
      | succ m =>
        refine Wc.seq ?_
        refine Wc.seq ?_
        refine Wc.region [] [] [0, 3, 7] [] [] ⟨[(0, (.v (.int .i64 b11_), [])), (3, (.v (.str e12_), [])), (7, (.v (.bool (decide (b11_ > 0))), []))], [], []⟩ _ (by kernel_rfl) .nil ?_
        rcases oif h14 with ⟨h15, h14⟩ | ⟨h15, h14⟩
        · refine Wc.condT h15 (by kernel_rfl) ?_
          refine Wc.fix (st' := ⟨[(0, (.v (.int .i64 b11_), [])), (3, (.v (.str e12_), []))], [], []⟩) [] [0, 3] [] [] (by kernel_rfl) ?_
          refine Wc.skip ?_
          refine Wc.block ?_
          refine Wc.seq ?_
          obtain ⟨h16, h14⟩ := oguard h14
          obtain ⟨h17, h14⟩ := oguard h14
          refine Wc.region [{}, {}, {}, {}, { c := some (List.map cI.u8 [wr.u8 (wr.i64 (48 + (Int.tmod b11_ 10)))]) }, { v := some (.str (strOfNums [wr.u8 (wr.i64 (48 + (Int.tmod b11_ 10)))])) }] [] [0, 3] [] [] ⟨[(0, (.v (.int .i64 b11_), [])), (3, (.v (.str ((strOfNums [wr.u8 (wr.i64 (48 + (Int.tmod b11_ 10)))]) ++ e12_)), []))], [], []⟩ _ (by kernel_rfl) (.cons h16 (.cons (cl_cons (c := cI.u8) (x := wr.u8 (wr.i64 (48 + (Int.tmod b11_ 10)))) rfl (cl_nil cI.u8)) (.cons (bytes_obl [wr.u8 (wr.i64 (48 + (Int.tmod b11_ 10)))]) (.cons h17 .nil)))) ?_
          obtain ⟨h18, h14⟩ := oguard h14
          refine Wc.region [] [] [0, 3] [] [] ⟨[(0, (.v (.int .i64 (wr.i64 (Int.tdiv b11_ 10))), [])), (3, (.v (.str ((strOfNums [wr.u8 (wr.i64 (48 + (Int.tmod b11_ 10)))]) ++ e12_)), []))], [], []⟩ _ (by kernel_rfl) (.cons h18 .nil) ?_
          exact ⟨_, Nat.lt_succ_self _, _, _, rfl, h14⟩
        · refine Wc.condF h15 (by kernel_rfl) ?_
          refine Wc.fix (st' := ⟨[(3, (.v (.str e12_), []))], [], []⟩) [] [3] [] [] (by kernel_rfl) ?_
          refine Wc.exit ?_
          obtain rfl := Option.some.inj h14
          exact ⟨_, rfl, rfl⟩
    · rintro st ⟨e13_, rfl, rfl⟩
      refine Wc.seq ?_
      obtain ⟨h19, h⟩ := oguard h
      refine Wc.region [] [] [2] [] [] ⟨[(2, (.v (.str ((bs [109]) ++ e13_)), []))], [], []⟩ _ (by kernel_rfl) (.cons h19 .nil) ?_
      refine Wc.ret ?_
      obtain rfl := Option.some.inj h
      exact ⟨.inl rfl, by kernel_rfl, by kernel_rfl⟩

def plaws_markTermS_L1 (k : Nat) (rlaws_markTermS : (List GTerm) → Int → Option ((List GTerm) × Int)) : Nat → Int → Int → (List GTerm) → Option (Out ((List GTerm) × Int) (Int × (List GTerm)))
  | 0, _, _, _ => none
  | m + 1, b16_, b17_, a18_ =>
    if (decide (b17_ < (a18_.length : Int))) = true then
      (at' a18_ b17_).bind fun c21_ =>
      (plaws_markText k (wr.i64 (b16_ + 1))).bind fun e22_ =>
      (at' (a18_.set ((b17_).toNat) (GTerm.mk b16_ c21_.gName c21_.gNum c21_.gKids)) b17_).bind fun c23_ =>
      (at' ((a18_.set ((b17_).toNat) (GTerm.mk b16_ c21_.gName c21_.gNum c21_.gKids)).set ((b17_).toNat) (GTerm.mk c23_.gKind e22_ c23_.gNum c23_.gKids)) b17_).bind fun c24_ =>
      (at' (((a18_.set ((b17_).toNat) (GTerm.mk b16_ c21_.gName c21_.gNum c21_.gKids)).set ((b17_).toNat) (GTerm.mk c23_.gKind e22_ c23_.gNum c23_.gKids)).set ((b17_).toNat) (GTerm.mk c24_.gKind c24_.gName (wr.i64 ((wr.i64 (b16_ + 1)) + 1)) c24_.gKids)) b17_).bind fun c25_ =>
      (rlaws_markTermS c25_.gKids (wr.i64 ((wr.i64 ((wr.i64 (b16_ + 1)) + 1)) + 1))).bind fun f26_ =>
      plaws_markTermS_L1 k rlaws_markTermS m f26_.2 (wr.i64 (b17_ + 1)) ((((a18_.set ((b17_).toNat) (GTerm.mk b16_ c21_.gName c21_.gNum c21_.gKids)).set ((b17_).toNat) (GTerm.mk c23_.gKind e22_ c23_.gNum c23_.gKids)).set ((b17_).toNat) (GTerm.mk c24_.gKind c24_.gName (wr.i64 ((wr.i64 (b16_ + 1)) + 1)) c24_.gKids)).set ((b17_).toNat) (GTerm.mk c25_.gKind c25_.gName c25_.gNum f26_.1))
    else
      some (.done (b16_, a18_))
mutual
/-- laws.markTermS -/
def plaws_markTermS : Nat → (List GTerm) → Int → Option ((List GTerm) × Int)
  | 0, _, _ => none
  | k + 1, a14_, b15_ =>
    (plaws_markTermS_L1 k (plaws_markTermS k) k b15_ 0 a14_).bind fun out1 => match out1 with
    | .ret r => some r
    | .done (b19_, a20_) =>
      some (a20_, b19_)
end
theorem all_plaws_markTermS : ∀ k : Nat, (∀ {a14_ : List GTerm} {b15_ : Int} {r : (List GTerm) × Int}, plaws_markTermS k a14_ b15_ = some r → FnO Try.prog 38 [.io (.slx) [(0, .ex 1000000007 true (List.map GTerm.c a14_))], .v (.int .i64 b15_) []] (.v (.int .i64 r.2) []) [(0, .v .undef [(0, .ex 1000000007 true (List.map GTerm.c r.1))])]) := by
  intro k
  induction k with
  | zero =>
    · intro a14_ b15_ r h
      exact (onone (by rw [plaws_markTermS] at h; exact h)).elim
  | succ k ih =>
    have ih_plaws_markTermS := @ih
    · intro a14_ b15_ r h
      rw [plaws_markTermS] at h
      refine FnO.of Try.func38 (rfl : Try.f38.body = some _) (Nat.le_of_ble_eq_true (by kernel_rfl)) (Nat.le_of_ble_eq_true (by kernel_rfl)) ?_
      intro w0 X0 Fin pv0 pb
      refine Wc.seq ?_
      refine Wc.region [] [] [0, 1] [] [0] ⟨[(0, (.v (.slx), [(0, .al (.a 0 0) [])])), (1, (.v (.int .i64 b15_), []))], [], [(0, [(0, .ex 1000000007 true (List.map GTerm.c a14_))])]⟩ _ (by kernel_rfl) .nil ?_
      refine Wc.seq ?_
      refine Wc.seq ?_
      refine Wc.region [] [] [0, 1, 5] [] [0] ⟨[(0, (.v (.slx), [(0, .al (.a 0 0) [])])), (1, (.v (.int .i64 b15_), [])), (5, (.v (.int .i64 0), []))], [], [(0, [(0, .ex 1000000007 true (List.map GTerm.c a14_))])]⟩ _ (by kernel_rfl) .nil ?_
      obtain ⟨out1, h20, h⟩ := obind h
      refine Wc.lastJ (fun st => ∃ (b19_ : Int) (a20_ : List GTerm), out1 = .done (b19_, a20_) ∧ st = ⟨[(1, (.v (.int .i64 b19_), []))], [], [(0, [(0, .ex 1000000007 true (List.map GTerm.c a20_))])]⟩) ?_ ?_
      · refine Wc.block ?_
        refine Wc.loop (fun m st => ∃ (b16_ : Int) (b17_ : Int) (a18_ : List GTerm), st = ⟨[(0, (.v (.slx), [(0, .al (.a 0 0) [])])), (1, (.v (.int .i64 b16_), [])), (5, (.v (.int .i64 b17_), []))], [], [(0, [(0, .ex 1000000007 true (List.map GTerm.c a18_))])]⟩ ∧ plaws_markTermS_L1 k (plaws_markTermS k) m b16_ b17_ a18_ = some out1) ?_ k ⟨_, _, _, rfl, h20⟩
        rintro m st ⟨b16_, b17_, a18_, rfl, h20⟩
        cases m with
        | zero => exact (onone h20).elim
        | succ m =>
          refine Wc.seq ?_
          refine Wc.seq ?_
          refine Wc.region [{}, {}, { v := some (.int .i64 (a18_.length : Int)) }] [] [0, 1, 5, 9] [] [0] ⟨[(0, (.v (.slx), [(0, .al (.a 0 0) [])])), (1, (.v (.int .i64 b16_), [])), (5, (.v (.int .i64 b17_), [])), (9, (.v (.bool (decide (b17_ < (a18_.length : Int)))), []))], [], [(0, [(0, .ex 1000000007 true (List.map GTerm.c a18_))])]⟩ _ (by kernel_rfl) (.cons (len_obl GTerm.c a18_) .nil) ?_
          rcases oif h20 with ⟨h21, h20⟩ | ⟨h21, h20⟩
          · refine Wc.condT h21 (by kernel_rfl) ?_
            refine Wc.fix (st' := ⟨[(0, (.v (.slx), [(0, .al (.a 0 0) [])])), (1, (.v (.int .i64 b16_), [])), (5, (.v (.int .i64 b17_), []))], [], [(0, [(0, .ex 1000000007 true (List.map GTerm.c a18_))])]⟩) [] [0, 1, 5] [] [0] (by kernel_rfl) ?_
            refine Wc.skip ?_
            refine Wc.seq ?_
            refine Wc.block ?_
            refine Wc.seq ?_
            obtain ⟨c21_, h22, h20⟩ := obind h20
            refine Wc.region [{}, {}, {}, {}, {}, { c := some (List.map GTerm.c (a18_.set ((b17_).toNat) (GTerm.mk b16_ c21_.gName c21_.gNum c21_.gKids))) }] [] [0, 1, 5] [] [0] ⟨[(0, (.v (.slx), [(0, .al (.a 0 0) [])])), (1, (.v (.int .i64 b16_), [])), (5, (.v (.int .i64 b17_), []))], [], [(0, [(0, .ex 1000000007 true (List.map GTerm.c (a18_.set ((b17_).toNat) (GTerm.mk b16_ c21_.gName c21_.gNum c21_.gKids))))])]⟩ _ (by kernel_rfl) (.cons (ix_obl (c := GTerm.c) GTerm.c_len h22) (.cons (mod_obl (off := 0) (new := [.int .i64 b16_]) (c := GTerm.c) (GTerm.c_eq c21_) (GTerm.c_eq (GTerm.mk b16_ c21_.gName c21_.gNum c21_.gKids)) (at'_spec h22).2 rfl) (.cons (st_obl (sz := 4) (off := 0) (s := 1) (c := GTerm.c) (GTerm.c_eq c21_) (at'_spec h22).2 rfl (Nat.le_of_ble_eq_true rfl)) .nil))) ?_
            refine Wc.seq ?_
            refine Wc.region [] [] [0, 1, 5] [] [0] ⟨[(0, (.v (.slx), [(0, .al (.a 0 0) [])])), (1, (.v (.int .i64 (wr.i64 (b16_ + 1))), [])), (5, (.v (.int .i64 b17_), []))], [], [(0, [(0, .ex 1000000007 true (List.map GTerm.c (a18_.set ((b17_).toNat) (GTerm.mk b16_ c21_.gName c21_.gNum c21_.gKids))))])]⟩ _ (by kernel_rfl) .nil ?_
            refine Wc.seq ?_
            obtain ⟨e22_, h23, h20⟩ := obind h20
            obtain ⟨c23_, h24, h20⟩ := obind h20
            refine Wc.region [{}, {}, {}, { r := some (.v (.str e22_) []) }, {}, {}, { c := some (List.map GTerm.c ((a18_.set ((b17_).toNat) (GTerm.mk b16_ c21_.gName c21_.gNum c21_.gKids)).set ((b17_).toNat) (GTerm.mk c23_.gKind e22_ c23_.gNum c23_.gKids))) }] [] [0, 1, 5] [] [0] ⟨[(0, (.v (.slx), [(0, .al (.a 0 0) [])])), (1, (.v (.int .i64 (wr.i64 (b16_ + 1))), [])), (5, (.v (.int .i64 b17_), []))], [], [(0, [(0, .ex 1000000007 true (List.map GTerm.c ((a18_.set ((b17_).toNat) (GTerm.mk b16_ c21_.gName c21_.gNum c21_.gKids)).set ((b17_).toNat) (GTerm.mk c23_.gKind e22_ c23_.gNum c23_.gKids))))])]⟩ _ (by kernel_rfl) (.cons (claws_markText h23) (.cons (ix_obl (c := GTerm.c) GTerm.c_len h24) (.cons (mod_obl (off := 1) (new := [.str e22_]) (c := GTerm.c) (GTerm.c_eq c23_) (GTerm.c_eq (GTerm.mk c23_.gKind e22_ c23_.gNum c23_.gKids)) (at'_spec h24).2 rfl) (.cons (st_obl (sz := 4) (off := 1) (s := 1) (c := GTerm.c) (GTerm.c_eq c23_) (at'_spec h24).2 rfl (Nat.le_of_ble_eq_true rfl)) .nil)))) ?_
            refine Wc.seq ?_
            refine Wc.region [] [] [0, 1, 5] [] [0] ⟨[(0, (.v (.slx), [(0, .al (.a 0 0) [])])), (1, (.v (.int .i64 (wr.i64 ((wr.i64 (b16_ + 1)) + 1))), [])), (5, (.v (.int .i64 b17_), []))], [], [(0, [(0, .ex 1000000007 true (List.map GTerm.c ((a18_.set ((b17_).toNat) (GTerm.mk b16_ c21_.gName c21_.gNum c21_.gKids)).set ((b17_).toNat) (GTerm.mk c23_.gKind e22_ c23_.gNum c23_.gKids))))])]⟩ _ (by kernel_rfl) .nil ?_
            refine Wc.seq ?_
            obtain ⟨c24_, h25, h20⟩ := obind h20
            refine Wc.region [{}, {}, {}, {}, {}, { c := some (List.map GTerm.c (((a18_.set ((b17_).toNat) (GTerm.mk b16_ c21_.gName c21_.gNum c21_.gKids)).set ((b17_).toNat) (GTerm.mk c23_.gKind e22_ c23_.gNum c23_.gKids)).set ((b17_).toNat) (GTerm.mk c24_.gKind c24_.gName (wr.i64 ((wr.i64 (b16_ + 1)) + 1)) c24_.gKids))) }] [] [0, 1, 5] [] [0] ⟨[(0, (.v (.slx), [(0, .al (.a 0 0) [])])), (1, (.v (.int .i64 (wr.i64 ((wr.i64 (b16_ + 1)) + 1))), [])), (5, (.v (.int .i64 b17_), []))], [], [(0, [(0, .ex 1000000007 true (List.map GTerm.c (((a18_.set ((b17_).toNat) (GTerm.mk b16_ c21_.gName c21_.gNum c21_.gKids)).set ((b17_).toNat) (GTerm.mk c23_.gKind e22_ c23_.gNum c23_.gKids)).set ((b17_).toNat) (GTerm.mk c24_.gKind c24_.gName (wr.i64 ((wr.i64 (b16_ + 1)) + 1)) c24_.gKids))))])]⟩ _ (by kernel_rfl) (.cons (ix_obl (c := GTerm.c) GTerm.c_len h25) (.cons (mod_obl (off := 2) (new := [.int .i64 (wr.i64 ((wr.i64 (b16_ + 1)) + 1))]) (c := GTerm.c) (GTerm.c_eq c24_) (GTerm.c_eq (GTerm.mk c24_.gKind c24_.gName (wr.i64 ((wr.i64 (b16_ + 1)) + 1)) c24_.gKids)) (at'_spec h25).2 rfl) (.cons (st_obl (sz := 4) (off := 2) (s := 1) (c := GTerm.c) (GTerm.c_eq c24_) (at'_spec h25).2 rfl (Nat.le_of_ble_eq_true rfl)) .nil))) ?_
            refine Wc.seq ?_
            refine Wc.region [] [] [0, 1, 5] [] [0] ⟨[(0, (.v (.slx), [(0, .al (.a 0 0) [])])), (1, (.v (.int .i64 (wr.i64 ((wr.i64 ((wr.i64 (b16_ + 1)) + 1)) + 1))), [])), (5, (.v (.int .i64 b17_), []))], [], [(0, [(0, .ex 1000000007 true (List.map GTerm.c (((a18_.set ((b17_).toNat) (GTerm.mk b16_ c21_.gName c21_.gNum c21_.gKids)).set ((b17_).toNat) (GTerm.mk c23_.gKind e22_ c23_.gNum c23_.gKids)).set ((b17_).toNat) (GTerm.mk c24_.gKind c24_.gName (wr.i64 ((wr.i64 (b16_ + 1)) + 1)) c24_.gKids))))])]⟩ _ (by kernel_rfl) .nil ?_
            obtain ⟨c25_, h26, h20⟩ := obind h20
            obtain ⟨f26_, h27, h20⟩ := obind h20
            refine Wc.region [{}, {}, {}, {}, { v := some (.slx) }, {}, { c := some (List.map GTerm.c ((((a18_.set ((b17_).toNat) (GTerm.mk b16_ c21_.gName c21_.gNum c21_.gKids)).set ((b17_).toNat) (GTerm.mk c23_.gKind e22_ c23_.gNum c23_.gKids)).set ((b17_).toNat) (GTerm.mk c24_.gKind c24_.gName (wr.i64 ((wr.i64 (b16_ + 1)) + 1)) c24_.gKids)).set ((b17_).toNat) (GTerm.mk c25_.gKind c25_.gName c25_.gNum f26_.1))), io := [0], r := some (.v (.int .i64 f26_.2) []), outs := [(0, .v .undef [(0, .ex 1000000007 true (List.map GTerm.c f26_.1))])], ioc := [(0, .ex 1000000007 true (List.map GTerm.c c25_.gKids))] }] [] [0, 1, 5] [] [0] ⟨[(0, (.v (.slx), [(0, .al (.a 0 0) [])])), (1, (.v (.int .i64 f26_.2), [])), (5, (.v (.int .i64 b17_), []))], [], [(0, [(0, .ex 1000000007 true (List.map GTerm.c ((((a18_.set ((b17_).toNat) (GTerm.mk b16_ c21_.gName c21_.gNum c21_.gKids)).set ((b17_).toNat) (GTerm.mk c23_.gKind e22_ c23_.gNum c23_.gKids)).set ((b17_).toNat) (GTerm.mk c24_.gKind c24_.gName (wr.i64 ((wr.i64 (b16_ + 1)) + 1)) c24_.gKids)).set ((b17_).toNat) (GTerm.mk c25_.gKind c25_.gName c25_.gNum f26_.1))))])]⟩ _ (by kernel_rfl) (.cons (ix_obl (c := GTerm.c) GTerm.c_len h26) (.cons (el_oblD (sz := 4) (off := 3) (s := 1) (ag := false) (v := .slx) (c := GTerm.c) (GTerm.c_eq c25_) (at'_spec h26).2 rfl (Nat.le_of_ble_eq_true rfl) rfl) (.cons (own_obl (own := [(0, .al (.a 0 0) [(((b17_).toNat), 4, 3)])]) (p := .a 0 0) (m := (b17_).toNat) (sz := 4) (off := 3) (js := [0]) rfl) (.cons (seg_obl (sz := 4) (off := 3) (n := [.sl (List.map GTerm.c c25_.gKids)]) (c := GTerm.c) (GTerm.c_eq c25_) (at'_spec h26).2 rfl (Nat.le_of_ble_eq_true rfl) rfl) (.cons (mod_obl (off := 3) (new := [.sl (List.map GTerm.c f26_.1)]) (c := GTerm.c) (GTerm.c_eq c25_) (GTerm.c_eq (GTerm.mk c25_.gKind c25_.gName c25_.gNum f26_.1)) (at'_spec h26).2 rfl) (.cons (FnO.any (args := [.io (.slx) [(0, .ex 1000000007 true (List.map GTerm.c c25_.gKids))], .v (.int .i64 (wr.i64 ((wr.i64 ((wr.i64 (b16_ + 1)) + 1)) + 1))) []]) (ih_plaws_markTermS h27)) .nil)))))) ?_
            refine Wc.region [] [] [0, 1, 5] [] [0] ⟨[(0, (.v (.slx), [(0, .al (.a 0 0) [])])), (1, (.v (.int .i64 f26_.2), [])), (5, (.v (.int .i64 (wr.i64 (b17_ + 1))), []))], [], [(0, [(0, .ex 1000000007 true (List.map GTerm.c ((((a18_.set ((b17_).toNat) (GTerm.mk b16_ c21_.gName c21_.gNum c21_.gKids)).set ((b17_).toNat) (GTerm.mk c23_.gKind e22_ c23_.gNum c23_.gKids)).set ((b17_).toNat) (GTerm.mk c24_.gKind c24_.gName (wr.i64 ((wr.i64 (b16_ + 1)) + 1)) c24_.gKids)).set ((b17_).toNat) (GTerm.mk c25_.gKind c25_.gName c25_.gNum f26_.1))))])]⟩ _ (by kernel_rfl) .nil ?_
            exact ⟨_, Nat.lt_succ_self _, _, _, _, rfl, h20⟩
          · refine Wc.condF h21 (by kernel_rfl) ?_
            refine Wc.fix (st' := ⟨[(1, (.v (.int .i64 b16_), []))], [], [(0, [(0, .ex 1000000007 true (List.map GTerm.c a18_))])]⟩) [] [1] [] [0] (by kernel_rfl) ?_
            refine Wc.exit ?_
            obtain rfl := Option.some.inj h20
            exact ⟨_, _, rfl, rfl⟩
      · rintro st ⟨b19_, a20_, rfl, rfl⟩
        refine Wc.seq ?_
        refine Wc.region [] [] [4] [] [0] ⟨[(4, (.v (.int .i64 b19_), []))], [], [(0, [(0, .ex 1000000007 true (List.map GTerm.c a20_))])]⟩ _ (by kernel_rfl) .nil ?_
        refine Wc.ret ?_
        obtain rfl := Option.some.inj h
        exact ⟨.inl rfl, by kernel_rfl, by kernel_rfl⟩
theorem claws_markTermS {k : Nat} {a14_ : List GTerm} {b15_ : Int} {r : (List GTerm) × Int} (h : plaws_markTermS k a14_ b15_ = some r) : FnO Try.prog 38 [.io (.slx) [(0, .ex 1000000007 true (List.map GTerm.c a14_))], .v (.int .i64 b15_) []] (.v (.int .i64 r.2) []) [(0, .v .undef [(0, .ex 1000000007 true (List.map GTerm.c r.1))])] := (all_plaws_markTermS k) h

/-- laws.markTerm -/
def plaws_markTerm (k : Nat) (c27_ : GTerm) (b28_ : Int) : Option (GTerm × Int) :=
  (plaws_markTermS k c27_.gKids b28_).bind fun f29_ =>
  some (GTerm.mk c27_.gKind c27_.gName c27_.gNum f29_.1, f29_.2)
theorem claws_markTerm {k : Nat} {c27_ : GTerm} {b28_ : Int} {r : GTerm × Int} (h : plaws_markTerm k c27_ b28_ = some r) : FnO Try.prog 21 [.io (.agg [.int .i64 c27_.gKind, .str c27_.gName, .int .i64 c27_.gNum, .slx]) [(3, .ex 1000000007 true (List.map GTerm.c c27_.gKids))], .v (.int .i64 b28_) []] (.v (.int .i64 r.2) []) [(0, .v .undef [(3, .ex 1000000007 true (List.map GTerm.c r.1.gKids))])] := by
  refine FnO.of Try.func21 (rfl : Try.f21.body = some _) (Nat.le_of_ble_eq_true (by kernel_rfl)) (Nat.le_of_ble_eq_true (by kernel_rfl)) ?_
  intro w0 X0 Fin pv0 pb
  unfold plaws_markTerm at h
  refine Wc.seq ?_
  refine Wc.region [] [] [1, 2] [2] [0] ⟨[(1, (.v (.int .i64 b28_), [])), (2, (.ptr 2 0, []))], [(2, .cells [.int .i64 c27_.gKind, .str c27_.gName, .int .i64 c27_.gNum, .slx] [(3, .al (.a 0 3) [])])], [(0, [(3, .ex 1000000007 true (List.map GTerm.c c27_.gKids))])]⟩ _ (by kernel_rfl) .nil ?_
  refine Wc.seq ?_
  obtain ⟨f29_, h28, h⟩ := obind h
  refine Wc.region [{}, {}, {}, { io := [0], r := some (.v (.int .i64 f29_.2) []), outs := [(0, .v .undef [(0, .ex 1000000007 true (List.map GTerm.c f29_.1))])] }] [] [1] [] [0] ⟨[(1, (.v (.int .i64 f29_.2), []))], [], [(0, [(3, .ex 1000000007 true (List.map GTerm.c f29_.1))])]⟩ _ (by kernel_rfl) (.cons (FnO.any (args := [.io (.slx) [(0, .ex 1000000007 true (List.map GTerm.c c27_.gKids))], .v (.int .i64 b28_) []]) (claws_markTermS h28)) .nil) ?_
  refine Wc.seq ?_
  refine Wc.region [] [] [4] [] [0] ⟨[(4, (.v (.int .i64 f29_.2), []))], [], [(0, [(3, .ex 1000000007 true (List.map GTerm.c f29_.1))])]⟩ _ (by kernel_rfl) .nil ?_
  refine Wc.ret ?_
  obtain rfl := Option.some.inj h
  exact ⟨.inl rfl, by kernel_rfl, by kernel_rfl⟩

def plaws_heldTermS_L1 (k : Nat) (rlaws_heldTermS : (List GTerm) → Int → Option Int) (a30_ : List GTerm) : Nat → Int → Int → Option (Out Int Int)
  | 0, _, _ => none
  | m + 1, b32_, b33_ =>
    if (decide (b33_ < (a30_.length : Int))) = true then
      (at' a30_ b33_).bind fun c35_ =>
      if (c35_.gKind != b32_) = true then
        some (.ret (-1))
      else
        (at' a30_ b33_).bind fun c36_ =>
        (plaws_markText k (wr.i64 (b32_ + 1))).bind fun e37_ =>
        if (!(sEq c36_.gName e37_)) = true then
          some (.ret (-1))
        else
          (at' a30_ b33_).bind fun c38_ =>
          if (c38_.gNum != (wr.i64 ((wr.i64 (b32_ + 1)) + 1))) = true then
            some (.ret (-1))
          else
            (at' a30_ b33_).bind fun c39_ =>
            (rlaws_heldTermS c39_.gKids (wr.i64 ((wr.i64 ((wr.i64 (b32_ + 1)) + 1)) + 1))).bind fun b40_ =>
            if (decide (b40_ < 0)) = true then
              some (.ret (-1))
            else
              plaws_heldTermS_L1 k rlaws_heldTermS a30_ m b40_ (wr.i64 (b33_ + 1))
    else
      some (.done b32_)
mutual
/-- laws.heldTermS -/
def plaws_heldTermS : Nat → (List GTerm) → Int → Option Int
  | 0, _, _ => none
  | k + 1, a30_, b31_ =>
    (plaws_heldTermS_L1 k (plaws_heldTermS k) a30_ k b31_ 0).bind fun out1 => match out1 with
    | .ret r => some r
    | .done b34_ =>
      some b34_
end
theorem all_plaws_heldTermS : ∀ k : Nat, (∀ {a30_ : List GTerm} {b31_ : Int} {r : Int}, plaws_heldTermS k a30_ b31_ = some r → FnO Try.prog 39 [.v (.sl (List.map GTerm.c a30_)) [], .v (.int .i64 b31_) []] (.v (.int .i64 r) []) []) := by
  intro k
  induction k with
  | zero =>
    · intro a30_ b31_ r h
      exact (onone (by rw [plaws_heldTermS] at h; exact h)).elim
  | succ k ih =>
    have ih_plaws_heldTermS := @ih
    · intro a30_ b31_ r h
      rw [plaws_heldTermS] at h
      refine FnO.of Try.func39 (rfl : Try.f39.body = some _) (Nat.le_of_ble_eq_true (by kernel_rfl)) (Nat.le_of_ble_eq_true (by kernel_rfl)) ?_
      intro w0 X0 Fin pv0 pb
      refine Wc.seq ?_
      refine Wc.region [] [] [0, 1] [] [] ⟨[(0, (.v (.sl (List.map GTerm.c a30_)), [])), (1, (.v (.int .i64 b31_), []))], [], []⟩ _ (by kernel_rfl) .nil ?_
      refine Wc.seq ?_
      refine Wc.seq ?_
      refine Wc.region [] [] [0, 1, 5] [] [] ⟨[(0, (.v (.sl (List.map GTerm.c a30_)), [])), (1, (.v (.int .i64 b31_), [])), (5, (.v (.int .i64 0), []))], [], []⟩ _ (by kernel_rfl) .nil ?_
      obtain ⟨out1, h29, h⟩ := obind h
      refine Wc.lastJ (fun st => ∃ (b34_ : Int), out1 = .done b34_ ∧ st = ⟨[(1, (.v (.int .i64 b34_), []))], [], []⟩) ?_ ?_
      · refine Wc.block ?_
        refine Wc.loop (fun m st => ∃ (b32_ : Int) (b33_ : Int), st = ⟨[(0, (.v (.sl (List.map GTerm.c a30_)), [])), (1, (.v (.int .i64 b32_), [])), (5, (.v (.int .i64 b33_), []))], [], []⟩ ∧ plaws_heldTermS_L1 k (plaws_heldTermS k) a30_ m b32_ b33_ = some out1) ?_ k ⟨_, _, rfl, h29⟩
        rintro m st ⟨b32_, b33_, rfl, h29⟩
        cases m with
        | zero => exact (onone h29).elim
        | succ m =>
          refine Wc.seq ?_
          refine Wc.seq ?_
          refine Wc.region [{}, {}, { v := some (.int .i64 (a30_.length : Int)) }] [] [0, 1, 5, 9] [] [] ⟨[(0, (.v (.sl (List.map GTerm.c a30_)), [])), (1, (.v (.int .i64 b32_), [])), (5, (.v (.int .i64 b33_), [])), (9, (.v (.bool (decide (b33_ < (a30_.length : Int)))), []))], [], []⟩ _ (by kernel_rfl) (.cons (len_obl GTerm.c a30_) .nil) ?_
          rcases oif h29 with ⟨h30, h29⟩ | ⟨h30, h29⟩
          · refine Wc.condT h30 (by kernel_rfl) ?_
            refine Wc.fix (st' := ⟨[(0, (.v (.sl (List.map GTerm.c a30_)), [])), (1, (.v (.int .i64 b32_), [])), (5, (.v (.int .i64 b33_), []))], [], []⟩) [] [0, 1, 5] [] [] (by kernel_rfl) ?_
            refine Wc.skip ?_
            refine Wc.seq ?_
            refine Wc.block ?_
            refine Wc.seq ?_
            refine Wc.seq ?_
            obtain ⟨c35_, h31, h29⟩ := obind h29
            refine Wc.region [{}, {}, { v := some (.vptr [.int .i64 c35_.gKind, .str c35_.gName, .int .i64 c35_.gNum, .sl (List.map GTerm.c c35_.gKids)]) }] [] [0, 1, 5, 18] [] [] ⟨[(0, (.v (.sl (List.map GTerm.c a30_)), [])), (1, (.v (.int .i64 b32_), [])), (5, (.v (.int .i64 b33_), [])), (18, (.v (.bool (c35_.gKind != b32_)), []))], [], []⟩ _ (by kernel_rfl) (.cons (at_obl (c := GTerm.c) (GTerm.c_eq c35_) GTerm.c_len h31) (.cons (len_ok 1 [.int .i64 c35_.gKind, .str c35_.gName, .int .i64 c35_.gNum, .sl (List.map GTerm.c c35_.gKids)]) .nil)) ?_
            rcases oif h29 with ⟨h32, h29⟩ | ⟨h32, h29⟩
            · refine Wc.condT h32 (by kernel_rfl) ?_
              refine Wc.seq ?_
              refine Wc.region [] [] [4] [] [] ⟨[(4, (.v (.int .i64 (-1)), []))], [], []⟩ _ (by kernel_rfl) .nil ?_
              refine Wc.ret ?_
              obtain rfl := Option.some.inj h29
              obtain rfl := Option.some.inj h
              exact ⟨.inl rfl, by kernel_rfl, by kernel_rfl⟩
            · refine Wc.condF h32 (by kernel_rfl) ?_
              refine Wc.fix (st' := ⟨[(0, (.v (.sl (List.map GTerm.c a30_)), [])), (1, (.v (.int .i64 b32_), [])), (5, (.v (.int .i64 b33_), []))], [], []⟩) [] [0, 1, 5] [] [] (by kernel_rfl) ?_
              refine Wc.skip ?_
              refine Wc.seq ?_
              refine Wc.region [] [] [0, 1, 5] [] [] ⟨[(0, (.v (.sl (List.map GTerm.c a30_)), [])), (1, (.v (.int .i64 (wr.i64 (b32_ + 1))), [])), (5, (.v (.int .i64 b33_), []))], [], []⟩ _ (by kernel_rfl) .nil ?_
              refine Wc.seq ?_
              refine Wc.seq ?_
              obtain ⟨c36_, h33, h29⟩ := obind h29
              obtain ⟨e37_, h34, h29⟩ := obind h29
              refine Wc.draw hmix [{}, {}, { v := some (.vptr [.int .i64 c36_.gKind, .str c36_.gName, .int .i64 c36_.gNum, .sl (List.map GTerm.c c36_.gKids)]) }, {}, {}, {}, { r := some (.v (.str e37_) []) }] [] [0, 1, 5, 28] [] [] ⟨[(0, (.v (.sl (List.map GTerm.c a30_)), [])), (1, (.v (.int .i64 (wr.i64 (b32_ + 1))), [])), (5, (.v (.int .i64 b33_), [])), (28, (.v (.bool (!(sEq c36_.gName e37_))), []))], [], []⟩ _ (by kernel_rfl) (fun X => by kernel_rfl) (.cons (at_obl (c := GTerm.c) (GTerm.c_eq c36_) GTerm.c_len h33) (.cons (len_ok 1 [.str c36_.gName, .int .i64 c36_.gNum, .sl (List.map GTerm.c c36_.gKids)]) (.cons (claws_markText h34) .nil))) ?_
              rcases oif h29 with ⟨h35, h29⟩ | ⟨h35, h29⟩
              · refine Wc.condT h35 (by kernel_rfl) ?_
                refine Wc.seq ?_
                refine Wc.region [] [] [4] [] [] ⟨[(4, (.v (.int .i64 (-1)), []))], [], []⟩ _ (by kernel_rfl) .nil ?_
                refine Wc.ret ?_
                obtain rfl := Option.some.inj h29
                obtain rfl := Option.some.inj h
                exact ⟨.inl rfl, by kernel_rfl, by kernel_rfl⟩
              · refine Wc.condF h35 (by kernel_rfl) ?_
                refine Wc.fix (st' := ⟨[(0, (.v (.sl (List.map GTerm.c a30_)), [])), (1, (.v (.int .i64 (wr.i64 (b32_ + 1))), [])), (5, (.v (.int .i64 b33_), []))], [], []⟩) [] [0, 1, 5] [] [] (by kernel_rfl) ?_
                refine Wc.skip ?_
                refine Wc.seq ?_
                refine Wc.region [] [] [0, 1, 5] [] [] ⟨[(0, (.v (.sl (List.map GTerm.c a30_)), [])), (1, (.v (.int .i64 (wr.i64 ((wr.i64 (b32_ + 1)) + 1))), [])), (5, (.v (.int .i64 b33_), []))], [], []⟩ _ (by kernel_rfl) .nil ?_
                refine Wc.seq ?_
                refine Wc.seq ?_
                obtain ⟨c38_, h36, h29⟩ := obind h29
                refine Wc.region [{}, {}, { v := some (.vptr [.int .i64 c38_.gKind, .str c38_.gName, .int .i64 c38_.gNum, .sl (List.map GTerm.c c38_.gKids)]) }] [] [0, 1, 5, 37] [] [] ⟨[(0, (.v (.sl (List.map GTerm.c a30_)), [])), (1, (.v (.int .i64 (wr.i64 ((wr.i64 (b32_ + 1)) + 1))), [])), (5, (.v (.int .i64 b33_), [])), (37, (.v (.bool (c38_.gNum != (wr.i64 ((wr.i64 (b32_ + 1)) + 1)))), []))], [], []⟩ _ (by kernel_rfl) (.cons (at_obl (c := GTerm.c) (GTerm.c_eq c38_) GTerm.c_len h36) (.cons (len_ok 1 [.int .i64 c38_.gNum, .sl (List.map GTerm.c c38_.gKids)]) .nil)) ?_
                rcases oif h29 with ⟨h37, h29⟩ | ⟨h37, h29⟩
                · refine Wc.condT h37 (by kernel_rfl) ?_
                  refine Wc.seq ?_
                  refine Wc.region [] [] [4] [] [] ⟨[(4, (.v (.int .i64 (-1)), []))], [], []⟩ _ (by kernel_rfl) .nil ?_
                  refine Wc.ret ?_
                  obtain rfl := Option.some.inj h29
                  obtain rfl := Option.some.inj h
                  exact ⟨.inl rfl, by kernel_rfl, by kernel_rfl⟩
                · refine Wc.condF h37 (by kernel_rfl) ?_
                  refine Wc.fix (st' := ⟨[(0, (.v (.sl (List.map GTerm.c a30_)), [])), (1, (.v (.int .i64 (wr.i64 ((wr.i64 (b32_ + 1)) + 1))), [])), (5, (.v (.int .i64 b33_), []))], [], []⟩) [] [0, 1, 5] [] [] (by kernel_rfl) ?_
                  refine Wc.skip ?_
                  refine Wc.seq ?_
                  refine Wc.region [] [] [0, 1, 5] [] [] ⟨[(0, (.v (.sl (List.map GTerm.c a30_)), [])), (1, (.v (.int .i64 (wr.i64 ((wr.i64 ((wr.i64 (b32_ + 1)) + 1)) + 1))), [])), (5, (.v (.int .i64 b33_), []))], [], []⟩ _ (by kernel_rfl) .nil ?_
                  refine Wc.seq ?_
                  obtain ⟨c39_, h38, h29⟩ := obind h29
                  obtain ⟨b40_, h39, h29⟩ := obind h29
                  refine Wc.region [{}, {}, { v := some (.vptr [.int .i64 c39_.gKind, .str c39_.gName, .int .i64 c39_.gNum, .sl (List.map GTerm.c c39_.gKids)]) }, {}, {}, {}, { r := some (.v (.int .i64 b40_) []) }] [] [0, 1, 5] [] [] ⟨[(0, (.v (.sl (List.map GTerm.c a30_)), [])), (1, (.v (.int .i64 b40_), [])), (5, (.v (.int .i64 b33_), []))], [], []⟩ _ (by kernel_rfl) (.cons (at_obl (c := GTerm.c) (GTerm.c_eq c39_) GTerm.c_len h38) (.cons (len_ok 1 [.sl (List.map GTerm.c c39_.gKids)]) (.cons (ih_plaws_heldTermS h39) .nil))) ?_
                  refine Wc.seq ?_
                  refine Wc.region [] [] [0, 1, 5, 48] [] [] ⟨[(0, (.v (.sl (List.map GTerm.c a30_)), [])), (1, (.v (.int .i64 b40_), [])), (5, (.v (.int .i64 b33_), [])), (48, (.v (.bool (decide (b40_ < 0))), []))], [], []⟩ _ (by kernel_rfl) .nil ?_
                  rcases oif h29 with ⟨h40, h29⟩ | ⟨h40, h29⟩
                  · refine Wc.condT h40 (by kernel_rfl) ?_
                    refine Wc.seq ?_
                    refine Wc.region [] [] [4] [] [] ⟨[(4, (.v (.int .i64 (-1)), []))], [], []⟩ _ (by kernel_rfl) .nil ?_
                    refine Wc.ret ?_
                    obtain rfl := Option.some.inj h29
                    obtain rfl := Option.some.inj h
                    exact ⟨.inl rfl, by kernel_rfl, by kernel_rfl⟩
                  · refine Wc.condF h40 (by kernel_rfl) ?_
                    refine Wc.fix (st' := ⟨[(0, (.v (.sl (List.map GTerm.c a30_)), [])), (1, (.v (.int .i64 b40_), [])), (5, (.v (.int .i64 b33_), []))], [], []⟩) [] [0, 1, 5] [] [] (by kernel_rfl) ?_
                    refine Wc.skip ?_
                    refine Wc.region [] [] [0, 1, 5] [] [] ⟨[(0, (.v (.sl (List.map GTerm.c a30_)), [])), (1, (.v (.int .i64 b40_), [])), (5, (.v (.int .i64 (wr.i64 (b33_ + 1))), []))], [], []⟩ _ (by kernel_rfl) .nil ?_
                    exact ⟨_, Nat.lt_succ_self _, _, _, rfl, h29⟩
          · refine Wc.condF h30 (by kernel_rfl) ?_
            refine Wc.fix (st' := ⟨[(1, (.v (.int .i64 b32_), []))], [], []⟩) [] [1] [] [] (by kernel_rfl) ?_
            refine Wc.exit ?_
            obtain rfl := Option.some.inj h29
            exact ⟨_, rfl, rfl⟩
      · rintro st ⟨b34_, rfl, rfl⟩
        refine Wc.seq ?_
        refine Wc.region [] [] [4] [] [] ⟨[(4, (.v (.int .i64 b34_), []))], [], []⟩ _ (by kernel_rfl) .nil ?_
        refine Wc.ret ?_
        obtain rfl := Option.some.inj h
        exact ⟨.inl rfl, by kernel_rfl, by kernel_rfl⟩
theorem claws_heldTermS {k : Nat} {a30_ : List GTerm} {b31_ : Int} {r : Int} (h : plaws_heldTermS k a30_ b31_ = some r) : FnO Try.prog 39 [.v (.sl (List.map GTerm.c a30_)) [], .v (.int .i64 b31_) []] (.v (.int .i64 r) []) [] := (all_plaws_heldTermS k) h

/-- laws.heldTerm -/
def plaws_heldTerm (k : Nat) (c41_ : GTerm) (b42_ : Int) : Option Int :=
  (plaws_heldTermS k c41_.gKids b42_).bind fun b43_ =>
  if (decide (b43_ < 0)) = true then
    some (-1)
  else
    some b43_
theorem claws_heldTerm {k : Nat} {c41_ : GTerm} {b42_ : Int} {r : Int} (h : plaws_heldTerm k c41_ b42_ = some r) : FnO Try.prog 22 [.v (.agg [.int .i64 c41_.gKind, .str c41_.gName, .int .i64 c41_.gNum, .sl (List.map GTerm.c c41_.gKids)]) [], .v (.int .i64 b42_) []] (.v (.int .i64 r) []) [] := by
  refine FnO.of Try.func22 (rfl : Try.f22.body = some _) (Nat.le_of_ble_eq_true (by kernel_rfl)) (Nat.le_of_ble_eq_true (by kernel_rfl)) ?_
  intro w0 X0 Fin pv0 pb
  unfold plaws_heldTerm at h
  refine Wc.seq ?_
  refine Wc.region [] [] [1, 2] [2] [] ⟨[(1, (.v (.int .i64 b42_), [])), (2, (.ptr 2 0, []))], [(2, .cells [.int .i64 c41_.gKind, .str c41_.gName, .int .i64 c41_.gNum, .sl (List.map GTerm.c c41_.gKids)] [])], []⟩ _ (by kernel_rfl) .nil ?_
  refine Wc.seq ?_
  obtain ⟨b43_, h41, h⟩ := obind h
  refine Wc.region [{}, {}, {}, { r := some (.v (.int .i64 b43_) []) }] [] [1] [] [] ⟨[(1, (.v (.int .i64 b43_), []))], [], []⟩ _ (by kernel_rfl) (.cons (claws_heldTermS h41) .nil) ?_
  refine Wc.seq ?_
  refine Wc.seq ?_
  refine Wc.region [] [] [1, 10] [] [] ⟨[(1, (.v (.int .i64 b43_), [])), (10, (.v (.bool (decide (b43_ < 0))), []))], [], []⟩ _ (by kernel_rfl) .nil ?_
  rcases oif h with ⟨h42, h⟩ | ⟨h42, h⟩
  · refine Wc.condT h42 (by kernel_rfl) ?_
    refine Wc.seq ?_
    refine Wc.region [] [] [4] [] [] ⟨[(4, (.v (.int .i64 (-1)), []))], [], []⟩ _ (by kernel_rfl) .nil ?_
    refine Wc.ret ?_
    obtain rfl := Option.some.inj h
    exact ⟨.inl rfl, by kernel_rfl, by kernel_rfl⟩
  · refine Wc.condF h42 (by kernel_rfl) ?_
    refine Wc.fix (st' := ⟨[(1, (.v (.int .i64 b43_), []))], [], []⟩) [] [1] [] [] (by kernel_rfl) ?_
    refine Wc.skip ?_
    refine Wc.seq ?_
    refine Wc.region [] [] [4] [] [] ⟨[(4, (.v (.int .i64 b43_), []))], [], []⟩ _ (by kernel_rfl) .nil ?_
    refine Wc.ret ?_
    obtain rfl := Option.some.inj h
    exact ⟨.inl rfl, by kernel_rfl, by kernel_rfl⟩

def plaws_szTermS_L1 (k : Nat) (rlaws_szTerm : GTerm → Int → Option Int) (rlaws_szTermS : (List GTerm) → Int → Option Int) (a47_ : List GTerm) : Nat → Int → Int → Option (Out Int Int)
  | 0, _, _ => none
  | m + 1, b49_, b50_ =>
    if (decide (b50_ < (a47_.length : Int))) = true then
      (at' a47_ b50_).bind fun c52_ =>
      (rlaws_szTerm c52_ b49_).bind fun b53_ =>
      if (decide (b53_ < 0)) = true then
        some (.ret (-1))
      else
        plaws_szTermS_L1 k rlaws_szTerm rlaws_szTermS a47_ m b53_ (wr.i64 (b50_ + 1))
    else
      some (.done b49_)
mutual
/-- laws.szTerm -/
def plaws_szTerm : Nat → GTerm → Int → Option Int
  | 0, _, _ => none
  | k + 1, c44_, b45_ =>
    if (decide ((wr.i64 (b45_ - (c44_.gName.size : Int))) < 0)) = true then
      some (-1)
    else
      (plaws_szTermS k c44_.gKids (wr.i64 (b45_ - (c44_.gName.size : Int)))).bind fun b46_ =>
      if (decide (b46_ < 0)) = true then
        some (-1)
      else
        some b46_
/-- laws.szTermS -/
def plaws_szTermS : Nat → (List GTerm) → Int → Option Int
  | 0, _, _ => none
  | k + 1, a47_, b48_ =>
    if (decide ((wr.i64 (b48_ - (a47_.length : Int))) < 0)) = true then
      some (-1)
    else
      (plaws_szTermS_L1 k (plaws_szTerm k) (plaws_szTermS k) a47_ k (wr.i64 (b48_ - (a47_.length : Int))) 0).bind fun out1 => match out1 with
      | .ret r => some r
      | .done b51_ =>
        some b51_
end
theorem all_plaws_szTerm : ∀ k : Nat, (∀ {c44_ : GTerm} {b45_ : Int} {r : Int}, plaws_szTerm k c44_ b45_ = some r → FnO Try.prog 33 [.v (.agg [.int .i64 c44_.gKind, .str c44_.gName, .int .i64 c44_.gNum, .sl (List.map GTerm.c c44_.gKids)]) [], .v (.int .i64 b45_) []] (.v (.int .i64 r) []) []) ∧
    (∀ {a47_ : List GTerm} {b48_ : Int} {r : Int}, plaws_szTermS k a47_ b48_ = some r → FnO Try.prog 40 [.v (.sl (List.map GTerm.c a47_)) [], .v (.int .i64 b48_) []] (.v (.int .i64 r) []) []) := by
  intro k
  induction k with
  | zero =>
    refine ⟨?_, ?_⟩
    · intro c44_ b45_ r h
      exact (onone (by rw [plaws_szTerm] at h; exact h)).elim
    · intro a47_ b48_ r h
      exact (onone (by rw [plaws_szTermS] at h; exact h)).elim
  | succ k ih =>
    obtain ⟨ih_plaws_szTerm, ih_plaws_szTermS⟩ := ih
    refine ⟨?_, ?_⟩
    · intro c44_ b45_ r h
      rw [plaws_szTerm] at h
      refine FnO.of Try.func33 (rfl : Try.f33.body = some _) (Nat.le_of_ble_eq_true (by kernel_rfl)) (Nat.le_of_ble_eq_true (by kernel_rfl)) ?_
      intro w0 X0 Fin pv0 pb
      refine Wc.seq ?_
      refine Wc.region [] [] [1, 2] [2] [] ⟨[(1, (.v (.int .i64 b45_), [])), (2, (.ptr 2 0, []))], [(2, .cells [.int .i64 c44_.gKind, .str c44_.gName, .int .i64 c44_.gNum, .sl (List.map GTerm.c c44_.gKids)] [])], []⟩ _ (by kernel_rfl) .nil ?_
      refine Wc.seq ?_
      refine Wc.region [] [] [1, 2] [2] [] ⟨[(1, (.v (.int .i64 (wr.i64 (b45_ - (c44_.gName.size : Int)))), [])), (2, (.ptr 2 0, []))], [(2, .cells [.int .i64 c44_.gKind, .str c44_.gName, .int .i64 c44_.gNum, .sl (List.map GTerm.c c44_.gKids)] [])], []⟩ _ (by kernel_rfl) .nil ?_
      refine Wc.seq ?_
      refine Wc.seq ?_
      refine Wc.region [] [] [1, 2, 11] [2] [] ⟨[(1, (.v (.int .i64 (wr.i64 (b45_ - (c44_.gName.size : Int)))), [])), (2, (.ptr 2 0, [])), (11, (.v (.bool (decide ((wr.i64 (b45_ - (c44_.gName.size : Int))) < 0))), []))], [(2, .cells [.int .i64 c44_.gKind, .str c44_.gName, .int .i64 c44_.gNum, .sl (List.map GTerm.c c44_.gKids)] [])], []⟩ _ (by kernel_rfl) .nil ?_
      rcases oif h with ⟨h43, h⟩ | ⟨h43, h⟩
      · refine Wc.condT h43 (by kernel_rfl) ?_
        refine Wc.seq ?_
        refine Wc.region [] [] [4] [] [] ⟨[(4, (.v (.int .i64 (-1)), []))], [], []⟩ _ (by kernel_rfl) .nil ?_
        refine Wc.ret ?_
        obtain rfl := Option.some.inj h
        exact ⟨.inl rfl, by kernel_rfl, by kernel_rfl⟩
      · refine Wc.condF h43 (by kernel_rfl) ?_
        refine Wc.fix (st' := ⟨[(1, (.v (.int .i64 (wr.i64 (b45_ - (c44_.gName.size : Int)))), [])), (2, (.ptr 2 0, []))], [(2, .cells [.int .i64 c44_.gKind, .str c44_.gName, .int .i64 c44_.gNum, .sl (List.map GTerm.c c44_.gKids)] [])], []⟩) [] [1, 2] [2] [] (by kernel_rfl) ?_
        refine Wc.skip ?_
        refine Wc.seq ?_
        obtain ⟨b46_, h44, h⟩ := obind h
        refine Wc.region [{}, {}, {}, { r := some (.v (.int .i64 b46_) []) }] [] [1] [] [] ⟨[(1, (.v (.int .i64 b46_), []))], [], []⟩ _ (by kernel_rfl) (.cons (ih_plaws_szTermS h44) .nil) ?_
        refine Wc.seq ?_
        refine Wc.seq ?_
        refine Wc.region [] [] [1, 17] [] [] ⟨[(1, (.v (.int .i64 b46_), [])), (17, (.v (.bool (decide (b46_ < 0))), []))], [], []⟩ _ (by kernel_rfl) .nil ?_
        rcases oif h with ⟨h45, h⟩ | ⟨h45, h⟩
        · refine Wc.condT h45 (by kernel_rfl) ?_
          refine Wc.seq ?_
          refine Wc.region [] [] [4] [] [] ⟨[(4, (.v (.int .i64 (-1)), []))], [], []⟩ _ (by kernel_rfl) .nil ?_
          refine Wc.ret ?_
          obtain rfl := Option.some.inj h
          exact ⟨.inl rfl, by kernel_rfl, by kernel_rfl⟩
        · refine Wc.condF h45 (by kernel_rfl) ?_
          refine Wc.fix (st' := ⟨[(1, (.v (.int .i64 b46_), []))], [], []⟩) [] [1] [] [] (by kernel_rfl) ?_
          refine Wc.skip ?_
          refine Wc.seq ?_
          refine Wc.region [] [] [4] [] [] ⟨[(4, (.v (.int .i64 b46_), []))], [], []⟩ _ (by kernel_rfl) .nil ?_
          refine Wc.ret ?_
          obtain rfl := Option.some.inj h
          exact ⟨.inl rfl, by kernel_rfl, by kernel_rfl⟩
    · intro a47_ b48_ r h
      rw [plaws_szTermS] at h
      refine FnO.of Try.func40 (rfl : Try.f40.body = some _) (Nat.le_of_ble_eq_true (by kernel_rfl)) (Nat.le_of_ble_eq_true (by kernel_rfl)) ?_
      intro w0 X0 Fin pv0 pb
      refine Wc.seq ?_
      refine Wc.region [] [] [0, 1] [] [] ⟨[(0, (.v (.sl (List.map GTerm.c a47_)), [])), (1, (.v (.int .i64 b48_), []))], [], []⟩ _ (by kernel_rfl) .nil ?_
      refine Wc.seq ?_
      refine Wc.region [{}, {}, { v := some (.int .i64 (a47_.length : Int)) }] [] [0, 1] [] [] ⟨[(0, (.v (.sl (List.map GTerm.c a47_)), [])), (1, (.v (.int .i64 (wr.i64 (b48_ - (a47_.length : Int)))), []))], [], []⟩ _ (by kernel_rfl) (.cons (len_obl GTerm.c a47_) .nil) ?_
      refine Wc.seq ?_
      refine Wc.seq ?_
      refine Wc.region [] [] [0, 1, 11] [] [] ⟨[(0, (.v (.sl (List.map GTerm.c a47_)), [])), (1, (.v (.int .i64 (wr.i64 (b48_ - (a47_.length : Int)))), [])), (11, (.v (.bool (decide ((wr.i64 (b48_ - (a47_.length : Int))) < 0))), []))], [], []⟩ _ (by kernel_rfl) .nil ?_
      rcases oif h with ⟨h46, h⟩ | ⟨h46, h⟩
      · refine Wc.condT h46 (by kernel_rfl) ?_
        refine Wc.seq ?_
        refine Wc.region [] [] [4] [] [] ⟨[(4, (.v (.int .i64 (-1)), []))], [], []⟩ _ (by kernel_rfl) .nil ?_
        refine Wc.ret ?_
        obtain rfl := Option.some.inj h
        exact ⟨.inl rfl, by kernel_rfl, by kernel_rfl⟩
      · refine Wc.condF h46 (by kernel_rfl) ?_
        refine Wc.fix (st' := ⟨[(0, (.v (.sl (List.map GTerm.c a47_)), [])), (1, (.v (.int .i64 (wr.i64 (b48_ - (a47_.length : Int)))), []))], [], []⟩) [] [0, 1] [] [] (by kernel_rfl) ?_
        refine Wc.skip ?_
        refine Wc.seq ?_
        refine Wc.seq ?_
        refine Wc.region [] [] [0, 1, 5] [] [] ⟨[(0, (.v (.sl (List.map GTerm.c a47_)), [])), (1, (.v (.int .i64 (wr.i64 (b48_ - (a47_.length : Int)))), [])), (5, (.v (.int .i64 0), []))], [], []⟩ _ (by kernel_rfl) .nil ?_
        obtain ⟨out1, h47, h⟩ := obind h
        refine Wc.lastJ (fun st => ∃ (b51_ : Int), out1 = .done b51_ ∧ st = ⟨[(1, (.v (.int .i64 b51_), []))], [], []⟩) ?_ ?_
        · refine Wc.block ?_
          refine Wc.loop (fun m st => ∃ (b49_ : Int) (b50_ : Int), st = ⟨[(0, (.v (.sl (List.map GTerm.c a47_)), [])), (1, (.v (.int .i64 b49_), [])), (5, (.v (.int .i64 b50_), []))], [], []⟩ ∧ plaws_szTermS_L1 k (plaws_szTerm k) (plaws_szTermS k) a47_ m b49_ b50_ = some out1) ?_ k ⟨_, _, rfl, h47⟩
          rintro m st ⟨b49_, b50_, rfl, h47⟩
          cases m with
          | zero => exact (onone h47).elim
          | succ m =>
            refine Wc.seq ?_
            refine Wc.seq ?_
            refine Wc.region [{}, {}, { v := some (.int .i64 (a47_.length : Int)) }] [] [0, 1, 5, 15] [] [] ⟨[(0, (.v (.sl (List.map GTerm.c a47_)), [])), (1, (.v (.int .i64 b49_), [])), (5, (.v (.int .i64 b50_), [])), (15, (.v (.bool (decide (b50_ < (a47_.length : Int)))), []))], [], []⟩ _ (by kernel_rfl) (.cons (len_obl GTerm.c a47_) .nil) ?_
            rcases oif h47 with ⟨h48, h47⟩ | ⟨h48, h47⟩
            · refine Wc.condT h48 (by kernel_rfl) ?_
              refine Wc.fix (st' := ⟨[(0, (.v (.sl (List.map GTerm.c a47_)), [])), (1, (.v (.int .i64 b49_), [])), (5, (.v (.int .i64 b50_), []))], [], []⟩) [] [0, 1, 5] [] [] (by kernel_rfl) ?_
              refine Wc.skip ?_
              refine Wc.seq ?_
              refine Wc.block ?_
              refine Wc.seq ?_
              obtain ⟨c52_, h49, h47⟩ := obind h47
              obtain ⟨b53_, h50, h47⟩ := obind h47
              refine Wc.region [{}, {}, { v := some (.vptr [.int .i64 c52_.gKind, .str c52_.gName, .int .i64 c52_.gNum, .sl (List.map GTerm.c c52_.gKids)]) }, {}, {}, { r := some (.v (.int .i64 b53_) []) }] [] [0, 1, 5] [] [] ⟨[(0, (.v (.sl (List.map GTerm.c a47_)), [])), (1, (.v (.int .i64 b53_), [])), (5, (.v (.int .i64 b50_), []))], [], []⟩ _ (by kernel_rfl) (.cons (at_obl (c := GTerm.c) (GTerm.c_eq c52_) GTerm.c_len h49) (.cons (len_ok 4 [.int .i64 c52_.gKind, .str c52_.gName, .int .i64 c52_.gNum, .sl (List.map GTerm.c c52_.gKids)]) (.cons (ih_plaws_szTerm h50) .nil))) ?_
              refine Wc.seq ?_
              refine Wc.region [] [] [0, 1, 5, 25] [] [] ⟨[(0, (.v (.sl (List.map GTerm.c a47_)), [])), (1, (.v (.int .i64 b53_), [])), (5, (.v (.int .i64 b50_), [])), (25, (.v (.bool (decide (b53_ < 0))), []))], [], []⟩ _ (by kernel_rfl) .nil ?_
              rcases oif h47 with ⟨h51, h47⟩ | ⟨h51, h47⟩
              · refine Wc.condT h51 (by kernel_rfl) ?_
                refine Wc.seq ?_
                refine Wc.region [] [] [4] [] [] ⟨[(4, (.v (.int .i64 (-1)), []))], [], []⟩ _ (by kernel_rfl) .nil ?_
                refine Wc.ret ?_
                obtain rfl := Option.some.inj h47
                obtain rfl := Option.some.inj h
                exact ⟨.inl rfl, by kernel_rfl, by kernel_rfl⟩
              · refine Wc.condF h51 (by kernel_rfl) ?_
                refine Wc.fix (st' := ⟨[(0, (.v (.sl (List.map GTerm.c a47_)), [])), (1, (.v (.int .i64 b53_), [])), (5, (.v (.int .i64 b50_), []))], [], []⟩) [] [0, 1, 5] [] [] (by kernel_rfl) ?_
                refine Wc.skip ?_
                refine Wc.region [] [] [0, 1, 5] [] [] ⟨[(0, (.v (.sl (List.map GTerm.c a47_)), [])), (1, (.v (.int .i64 b53_), [])), (5, (.v (.int .i64 (wr.i64 (b50_ + 1))), []))], [], []⟩ _ (by kernel_rfl) .nil ?_
                exact ⟨_, Nat.lt_succ_self _, _, _, rfl, h47⟩
            · refine Wc.condF h48 (by kernel_rfl) ?_
              refine Wc.fix (st' := ⟨[(1, (.v (.int .i64 b49_), []))], [], []⟩) [] [1] [] [] (by kernel_rfl) ?_
              refine Wc.exit ?_
              obtain rfl := Option.some.inj h47
              exact ⟨_, rfl, rfl⟩
        · rintro st ⟨b51_, rfl, rfl⟩
          refine Wc.seq ?_
          refine Wc.region [] [] [4] [] [] ⟨[(4, (.v (.int .i64 b51_), []))], [], []⟩ _ (by kernel_rfl) .nil ?_
          refine Wc.ret ?_
          obtain rfl := Option.some.inj h
          exact ⟨.inl rfl, by kernel_rfl, by kernel_rfl⟩
theorem claws_szTerm {k : Nat} {c44_ : GTerm} {b45_ : Int} {r : Int} (h : plaws_szTerm k c44_ b45_ = some r) : FnO Try.prog 33 [.v (.agg [.int .i64 c44_.gKind, .str c44_.gName, .int .i64 c44_.gNum, .sl (List.map GTerm.c c44_.gKids)]) [], .v (.int .i64 b45_) []] (.v (.int .i64 r) []) [] := (all_plaws_szTerm k).1 h
theorem claws_szTermS {k : Nat} {a47_ : List GTerm} {b48_ : Int} {r : Int} (h : plaws_szTermS k a47_ b48_ = some r) : FnO Try.prog 40 [.v (.sl (List.map GTerm.c a47_)) [], .v (.int .i64 b48_) []] (.v (.int .i64 r) []) [] := (all_plaws_szTerm k).2 h

/-- spec.l03Atom -/
def pspec_l03Atom (k : Nat) (e55_ : ByteArray) : Option GTerm :=
  some (GTerm.mk 2 e55_ 0 [])
theorem cspec_l03Atom {k : Nat} {e55_ : ByteArray} {r : GTerm} (h : pspec_l03Atom k e55_ = some r) : FnO Try.prog 56 [.v (.str e55_) []] (.v (.agg [.int .i64 r.gKind, .str r.gName, .int .i64 r.gNum, .sl (List.map GTerm.c r.gKids)]) [(3, .app 40)]) [] := by
  refine FnO.of Try.func56 (rfl : Try.f56.body = some _) (Nat.le_of_ble_eq_true (by kernel_rfl)) (Nat.le_of_ble_eq_true (by kernel_rfl)) ?_
  intro w0 X0 Fin pv0 pb
  unfold pspec_l03Atom at h
  refine Wc.seq ?_
  refine Wc.region [] [] [0, 2] [2] [] ⟨[(0, (.v (.str e55_), [])), (2, (.ptr 2 0, []))], [(2, .cells [.int .i64 0, .str (bs []), .int .i64 0, .sl (List.map GTerm.c [])] [(3, .app 40)])], []⟩ _ (by kernel_rfl) .nil ?_
  refine Wc.seq ?_
  refine Wc.region [{}, {}, { tk := [4] }] [] [2] [2] [] ⟨[(2, (.ptr 2 0, []))], [(2, .cells [.int .i64 2, .str e55_, .int .i64 0, .sl (List.map GTerm.c [])] [(3, .app 40)])], []⟩ _ (by kernel_rfl) .nil ?_
  refine Wc.ret ?_
  obtain rfl := Option.some.inj h
  exact ⟨.inl rfl, by kernel_rfl, by kernel_rfl⟩

def pspec_l03Count_L1 (k : Nat) (rspec_l03Count : GTerm → Int → Option Int) (c56_ : GTerm) : Nat → Int → Int → Option (Out Int Int)
  | 0, _, _ => none
  | m + 1, b58_, b59_ =>
    if (decide (b59_ < (c56_.gKids.length : Int))) = true then
      if (decide (b58_ ≥ 0)) = true then
        (at' c56_.gKids b59_).bind fun c61_ =>
        (rspec_l03Count c61_ b58_).bind fun b62_ =>
        pspec_l03Count_L1 k rspec_l03Count c56_ m b62_ (wr.i64 (b59_ + 1))
      else
        some (.done b58_)
    else
      some (.done b58_)
mutual
/-- spec.l03Count -/
def pspec_l03Count : Nat → GTerm → Int → Option Int
  | 0, _, _ => none
  | k + 1, c56_, b57_ =>
    (pspec_l03Count_L1 k (pspec_l03Count k) c56_ k (wr.i64 (b57_ - 1)) 0).bind fun out1 => match out1 with
    | .ret r => some r
    | .done b60_ =>
      some b60_
end
theorem all_pspec_l03Count : ∀ k : Nat, (∀ {c56_ : GTerm} {b57_ : Int} {r : Int}, pspec_l03Count k c56_ b57_ = some r → FnO Try.prog 112 [.v (.agg [.int .i64 c56_.gKind, .str c56_.gName, .int .i64 c56_.gNum, .sl (List.map GTerm.c c56_.gKids)]) [], .v (.int .i64 b57_) []] (.v (.int .i64 r) []) []) := by
  intro k
  induction k with
  | zero =>
    · intro c56_ b57_ r h
      exact (onone (by rw [pspec_l03Count] at h; exact h)).elim
  | succ k ih =>
    have ih_pspec_l03Count := @ih
    · intro c56_ b57_ r h
      rw [pspec_l03Count] at h
      refine FnO.of Try.func112 (rfl : Try.f112.body = some _) (Nat.le_of_ble_eq_true (by kernel_rfl)) (Nat.le_of_ble_eq_true (by kernel_rfl)) ?_
      intro w0 X0 Fin pv0 pb
      refine Wc.seq ?_
      refine Wc.region [] [] [1, 2] [2] [] ⟨[(1, (.v (.int .i64 b57_), [])), (2, (.ptr 2 0, []))], [(2, .cells [.int .i64 c56_.gKind, .str c56_.gName, .int .i64 c56_.gNum, .sl (List.map GTerm.c c56_.gKids)] [])], []⟩ _ (by kernel_rfl) .nil ?_
      refine Wc.seq ?_
      refine Wc.region [] [] [1, 2] [2] [] ⟨[(1, (.v (.int .i64 (wr.i64 (b57_ - 1))), [])), (2, (.ptr 2 0, []))], [(2, .cells [.int .i64 c56_.gKind, .str c56_.gName, .int .i64 c56_.gNum, .sl (List.map GTerm.c c56_.gKids)] [])], []⟩ _ (by kernel_rfl) .nil ?_
      refine Wc.seq ?_
      refine Wc.seq ?_
      refine Wc.region [] [] [1, 2, 5] [2] [] ⟨[(1, (.v (.int .i64 (wr.i64 (b57_ - 1))), [])), (2, (.ptr 2 0, [])), (5, (.v (.int .i64 0), []))], [(2, .cells [.int .i64 c56_.gKind, .str c56_.gName, .int .i64 c56_.gNum, .sl (List.map GTerm.c c56_.gKids)] [])], []⟩ _ (by kernel_rfl) .nil ?_
      obtain ⟨out1, h52, h⟩ := obind h
      refine Wc.lastJ (fun st => ∃ (b60_ : Int), out1 = .done b60_ ∧ st = ⟨[(1, (.v (.int .i64 b60_), []))], [], []⟩) ?_ ?_
      · refine Wc.block ?_
        refine Wc.loop (fun m st => ∃ (b58_ : Int) (b59_ : Int), st = ⟨[(1, (.v (.int .i64 b58_), [])), (2, (.ptr 2 0, [])), (5, (.v (.int .i64 b59_), []))], [(2, .cells [.int .i64 c56_.gKind, .str c56_.gName, .int .i64 c56_.gNum, .sl (List.map GTerm.c c56_.gKids)] [])], []⟩ ∧ pspec_l03Count_L1 k (pspec_l03Count k) c56_ m b58_ b59_ = some out1) ?_ k ⟨_, _, rfl, h52⟩
        rintro m st ⟨b58_, b59_, rfl, h52⟩
        cases m with
        | zero => exact (onone h52).elim
        | succ m =>
          refine Wc.seq ?_
          refine Wc.seq ?_
          rcases oif h52 with ⟨h53, h52⟩ | ⟨h53, h52⟩
          · refine Wc.region [{}, {}, {}, { v := some (.int .i64 (c56_.gKids.length : Int)) }, {}, { re := some (.bool true) }] [] [1, 2, 5, 16] [2] [] ⟨[(1, (.v (.int .i64 b58_), [])), (2, (.ptr 2 0, [])), (5, (.v (.int .i64 b59_), [])), (16, (.v (.bool (decide (b58_ ≥ 0))), []))], [(2, .cells [.int .i64 c56_.gKind, .str c56_.gName, .int .i64 c56_.gNum, .sl (List.map GTerm.c c56_.gKids)] [])], []⟩ _ (by kernel_rfl) (.cons (len_obl GTerm.c c56_.gKids) (.cons (congrArg AV.bool h53) .nil)) ?_
            rcases oif h52 with ⟨h54, h52⟩ | ⟨h54, h52⟩
            · refine Wc.condT h54 (by kernel_rfl) ?_
              refine Wc.fix (st' := ⟨[(1, (.v (.int .i64 b58_), [])), (2, (.ptr 2 0, [])), (5, (.v (.int .i64 b59_), []))], [(2, .cells [.int .i64 c56_.gKind, .str c56_.gName, .int .i64 c56_.gNum, .sl (List.map GTerm.c c56_.gKids)] [])], []⟩) [] [1, 2, 5] [2] [] (by kernel_rfl) ?_
              refine Wc.skip ?_
              refine Wc.seq ?_
              refine Wc.block ?_
              obtain ⟨c61_, h55, h52⟩ := obind h52
              obtain ⟨b62_, h56, h52⟩ := obind h52
              refine Wc.region [{}, {}, {}, { v := some (.vptr [.int .i64 c61_.gKind, .str c61_.gName, .int .i64 c61_.gNum, .sl (List.map GTerm.c c61_.gKids)]) }, {}, {}, { r := some (.v (.int .i64 b62_) []) }] [] [1, 2, 5] [2] [] ⟨[(1, (.v (.int .i64 b62_), [])), (2, (.ptr 2 0, [])), (5, (.v (.int .i64 b59_), []))], [(2, .cells [.int .i64 c56_.gKind, .str c56_.gName, .int .i64 c56_.gNum, .sl (List.map GTerm.c c56_.gKids)] [])], []⟩ _ (by kernel_rfl) (.cons (at_obl (c := GTerm.c) (GTerm.c_eq c61_) GTerm.c_len h55) (.cons (len_ok 4 [.int .i64 c61_.gKind, .str c61_.gName, .int .i64 c61_.gNum, .sl (List.map GTerm.c c61_.gKids)]) (.cons (ih_pspec_l03Count h56) .nil))) ?_
              refine Wc.region [] [] [1, 2, 5] [2] [] ⟨[(1, (.v (.int .i64 b62_), [])), (2, (.ptr 2 0, [])), (5, (.v (.int .i64 (wr.i64 (b59_ + 1))), []))], [(2, .cells [.int .i64 c56_.gKind, .str c56_.gName, .int .i64 c56_.gNum, .sl (List.map GTerm.c c56_.gKids)] [])], []⟩ _ (by kernel_rfl) .nil ?_
              exact ⟨_, Nat.lt_succ_self _, _, _, rfl, h52⟩
            · refine Wc.condF h54 (by kernel_rfl) ?_
              refine Wc.fix (st' := ⟨[(1, (.v (.int .i64 b58_), []))], [], []⟩) [] [1] [] [] (by kernel_rfl) ?_
              refine Wc.exit ?_
              obtain rfl := Option.some.inj h52
              exact ⟨_, rfl, rfl⟩
          · refine Wc.region [{}, {}, {}, { v := some (.int .i64 (c56_.gKids.length : Int)) }, {}, { re := some (.bool false) }] [] [1, 2, 5, 16] [2] [] ⟨[(1, (.v (.int .i64 b58_), [])), (2, (.ptr 2 0, [])), (5, (.v (.int .i64 b59_), [])), (16, (.v (.bool false), []))], [(2, .cells [.int .i64 c56_.gKind, .str c56_.gName, .int .i64 c56_.gNum, .sl (List.map GTerm.c c56_.gKids)] [])], []⟩ _ (by kernel_rfl) (.cons (len_obl GTerm.c c56_.gKids) (.cons (congrArg AV.bool h53) .nil)) ?_
            refine Wc.condF rfl (by kernel_rfl) ?_
            refine Wc.fix (st' := ⟨[(1, (.v (.int .i64 b58_), []))], [], []⟩) [] [1] [] [] (by kernel_rfl) ?_
            refine Wc.exit ?_
            obtain rfl := Option.some.inj h52
            exact ⟨_, rfl, rfl⟩
      · rintro st ⟨b60_, rfl, rfl⟩
        refine Wc.seq ?_
        refine Wc.region [] [] [4] [] [] ⟨[(4, (.v (.int .i64 b60_), []))], [], []⟩ _ (by kernel_rfl) .nil ?_
        refine Wc.ret ?_
        obtain rfl := Option.some.inj h
        exact ⟨.inl rfl, by kernel_rfl, by kernel_rfl⟩
theorem cspec_l03Count {k : Nat} {c56_ : GTerm} {b57_ : Int} {r : Int} (h : pspec_l03Count k c56_ b57_ = some r) : FnO Try.prog 112 [.v (.agg [.int .i64 c56_.gKind, .str c56_.gName, .int .i64 c56_.gNum, .sl (List.map GTerm.c c56_.gKids)]) [], .v (.int .i64 b57_) []] (.v (.int .i64 r) []) [] := (all_pspec_l03Count k) h

/-- spec.l01In -/
def pspec_l01In (k : Nat) (b63_ : Int) (b64_ : Int) (b65_ : Int) : Option Bool :=
  if (decide (b63_ ≥ b64_)) = true then
    some (decide (b63_ ≤ b65_))
  else
    some false
theorem cspec_l01In {k : Nat} {b63_ : Int} {b64_ : Int} {b65_ : Int} {r : Bool} (h : pspec_l01In k b63_ b64_ b65_ = some r) : FnO Try.prog 46 [.v (.int .i64 b63_) [], .v (.int .i64 b64_) [], .v (.int .i64 b65_) []] (.v (.bool r) []) [] := by
  refine FnO.of Try.func46 (rfl : Try.f46.body = some _) (Nat.le_of_ble_eq_true (by kernel_rfl)) (Nat.le_of_ble_eq_true (by kernel_rfl)) ?_
  intro w0 X0 Fin pv0 pb
  unfold pspec_l01In at h
  refine Wc.seq ?_
  refine Wc.region [] [] [0, 1, 2] [] [] ⟨[(0, (.v (.int .i64 b63_), [])), (1, (.v (.int .i64 b64_), [])), (2, (.v (.int .i64 b65_), []))], [], []⟩ _ (by kernel_rfl) .nil ?_
  refine Wc.seq ?_
  rcases oif h with ⟨h57, h⟩ | ⟨h57, h⟩
  · refine Wc.region [{}, {}, {}, { re := some (.bool true) }] [] [6] [] [] ⟨[(6, (.v (.bool (decide (b63_ ≤ b65_))), []))], [], []⟩ _ (by kernel_rfl) (.cons (congrArg AV.bool h57) .nil) ?_
    refine Wc.ret ?_
    obtain rfl := Option.some.inj h
    exact ⟨.inl rfl, by kernel_rfl, by kernel_rfl⟩
  · refine Wc.region [{}, {}, {}, { re := some (.bool false) }] [] [6] [] [] ⟨[(6, (.v (.bool false), []))], [], []⟩ _ (by kernel_rfl) (.cons (congrArg AV.bool h57) .nil) ?_
    refine Wc.ret ?_
    obtain rfl := Option.some.inj h
    exact ⟨.inl rfl, by kernel_rfl, by kernel_rfl⟩

def pspec_l03Name_L1 (k : Nat) (e66_ : ByteArray) : Nat → Int → Option (Out Bool Unit)
  | 0, _ => none
  | m + 1, b67_ =>
    if (decide (b67_ < (e66_.size : Int))) = true then
      if 0 ≤ b67_ ∧ (b67_).toNat < e66_.size then
        if (decide ((bt e66_ b67_) < 33)) = true then
          some (.ret false)
        else
          if 0 ≤ b67_ ∧ (b67_).toNat < e66_.size then
            if (decide ((bt e66_ b67_) > 126)) = true then
              some (.ret false)
            else
              if 0 ≤ b67_ ∧ (b67_).toNat < e66_.size then
                if ((bt e66_ b67_) == 39) = true then
                  some (.ret false)
                else
                  if 0 ≤ b67_ ∧ (b67_).toNat < e66_.size then
                    if ((bt e66_ b67_) == 34) = true then
                      some (.ret false)
                    else
                      pspec_l03Name_L1 k e66_ m (wr.i64 (b67_ + 1))
                  else none
              else none
          else none
      else none
    else
      some (.done ())
/-- spec.l03Name -/
def pspec_l03Name (k : Nat) (e66_ : ByteArray) : Option Bool :=
  (pspec_l03Name_L1 k e66_ k 0).bind fun out1 => match out1 with
  | .ret r => some r
  | .done () =>
    (pspec_l01In k (e66_.size : Int) 1 20).bind fun d68_ =>
    some d68_
theorem cspec_l03Name {k : Nat} {e66_ : ByteArray} {r : Bool} (h : pspec_l03Name k e66_ = some r) : FnO Try.prog 116 [.v (.str e66_) []] (.v (.bool r) []) [] := by
  refine FnO.of Try.func116 (rfl : Try.f116.body = some _) (Nat.le_of_ble_eq_true (by kernel_rfl)) (Nat.le_of_ble_eq_true (by kernel_rfl)) ?_
  intro w0 X0 Fin pv0 pb
  unfold pspec_l03Name at h
  refine Wc.seq ?_
  refine Wc.region [] [] [0] [] [] ⟨[(0, (.v (.str e66_), []))], [], []⟩ _ (by kernel_rfl) .nil ?_
  refine Wc.seq ?_
  refine Wc.seq ?_
  refine Wc.region [] [] [0, 3] [] [] ⟨[(0, (.v (.str e66_), [])), (3, (.v (.int .i64 0), []))], [], []⟩ _ (by kernel_rfl) .nil ?_
  obtain ⟨out1, h58, h⟩ := obind h
  refine Wc.lastJ (fun st => out1 = .done () ∧ st = ⟨[(0, (.v (.str e66_), []))], [], []⟩) ?_ ?_
  · refine Wc.block ?_
    refine Wc.loop (fun m st => ∃ (b67_ : Int), st = ⟨[(0, (.v (.str e66_), [])), (3, (.v (.int .i64 b67_), []))], [], []⟩ ∧ pspec_l03Name_L1 k e66_ m b67_ = some out1) ?_ k ⟨_, rfl, h58⟩
    rintro m st ⟨b67_, rfl, h58⟩
    cases m with
    | zero => exact (onone h58).elim
    | succ m =>
      refine Wc.seq ?_
      refine Wc.seq ?_
      refine Wc.region [] [] [0, 3, 7] [] [] ⟨[(0, (.v (.str e66_), [])), (3, (.v (.int .i64 b67_), [])), (7, (.v (.bool (decide (b67_ < (e66_.size : Int)))), []))], [], []⟩ _ (by kernel_rfl) .nil ?_
      rcases oif h58 with ⟨h59, h58⟩ | ⟨h59, h58⟩
      · refine Wc.condT h59 (by kernel_rfl) ?_
        refine Wc.fix (st' := ⟨[(0, (.v (.str e66_), [])), (3, (.v (.int .i64 b67_), []))], [], []⟩) [] [0, 3] [] [] (by kernel_rfl) ?_
        refine Wc.skip ?_
        refine Wc.seq ?_
        refine Wc.block ?_
        refine Wc.seq ?_
        obtain ⟨h60, h58⟩ := oguard h58
        rcases oif h58 with ⟨h61, h58⟩ | ⟨h61, h58⟩
        · refine Wc.region [{}, {}, {}, {}, { re := some (.bool true) }] [] [0, 3, 31] [] [] ⟨[(0, (.v (.str e66_), [])), (3, (.v (.int .i64 b67_), [])), (31, (.v (.bool true), []))], [], []⟩ _ (by kernel_rfl) (.cons h60 (.cons (congrArg AV.bool h61) .nil)) ?_
          refine Wc.condT rfl (by kernel_rfl) ?_
          refine Wc.seq ?_
          refine Wc.region [] [] [2] [] [] ⟨[(2, (.v (.bool false), []))], [], []⟩ _ (by kernel_rfl) .nil ?_
          refine Wc.ret ?_
          obtain rfl := Option.some.inj h58
          obtain rfl := Option.some.inj h
          exact ⟨.inl rfl, by kernel_rfl, by kernel_rfl⟩
        · obtain ⟨h62, h58⟩ := oguard h58
          rcases oif h58 with ⟨h63, h58⟩ | ⟨h63, h58⟩
          · refine Wc.region [{}, {}, {}, {}, { re := some (.bool false) }, {}, {}, {}, {}, {}, { re := some (.bool true) }] [] [0, 3, 31] [] [] ⟨[(0, (.v (.str e66_), [])), (3, (.v (.int .i64 b67_), [])), (31, (.v (.bool true), []))], [], []⟩ _ (by kernel_rfl) (.cons h60 (.cons (congrArg AV.bool h61) (.cons h62 (.cons (congrArg AV.bool h63) .nil)))) ?_
            refine Wc.condT rfl (by kernel_rfl) ?_
            refine Wc.seq ?_
            refine Wc.region [] [] [2] [] [] ⟨[(2, (.v (.bool false), []))], [], []⟩ _ (by kernel_rfl) .nil ?_
            refine Wc.ret ?_
            obtain rfl := Option.some.inj h58
            obtain rfl := Option.some.inj h
            exact ⟨.inl rfl, by kernel_rfl, by kernel_rfl⟩
          · obtain ⟨h64, h58⟩ := oguard h58
            rcases oif h58 with ⟨h65, h58⟩ | ⟨h65, h58⟩
            · refine Wc.region [{}, {}, {}, {}, { re := some (.bool false) }, {}, {}, {}, {}, {}, { re := some (.bool false) }, {}, {}, {}, {}, {}, { re := some (.bool true) }] [] [0, 3, 31] [] [] ⟨[(0, (.v (.str e66_), [])), (3, (.v (.int .i64 b67_), [])), (31, (.v (.bool true), []))], [], []⟩ _ (by kernel_rfl) (.cons h60 (.cons (congrArg AV.bool h61) (.cons h62 (.cons (congrArg AV.bool h63) (.cons h64 (.cons (congrArg AV.bool h65) .nil)))))) ?_
              refine Wc.condT rfl (by kernel_rfl) ?_
              refine Wc.seq ?_
              refine Wc.region [] [] [2] [] [] ⟨[(2, (.v (.bool false), []))], [], []⟩ _ (by kernel_rfl) .nil ?_
              refine Wc.ret ?_
              obtain rfl := Option.some.inj h58
              obtain rfl := Option.some.inj h
              exact ⟨.inl rfl, by kernel_rfl, by kernel_rfl⟩
            · obtain ⟨h66, h58⟩ := oguard h58
              refine Wc.region [{}, {}, {}, {}, { re := some (.bool false) }, {}, {}, {}, {}, {}, { re := some (.bool false) }, {}, {}, {}, {}, {}, { re := some (.bool false) }] [] [0, 3, 31] [] [] ⟨[(0, (.v (.str e66_), [])), (3, (.v (.int .i64 b67_), [])), (31, (.v (.bool ((bt e66_ b67_) == 34)), []))], [], []⟩ _ (by kernel_rfl) (.cons h60 (.cons (congrArg AV.bool h61) (.cons h62 (.cons (congrArg AV.bool h63) (.cons h64 (.cons (congrArg AV.bool h65) (.cons h66 .nil))))))) ?_
              rcases oif h58 with ⟨h67, h58⟩ | ⟨h67, h58⟩
              · refine Wc.condT h67 (by kernel_rfl) ?_
                refine Wc.seq ?_
                refine Wc.region [] [] [2] [] [] ⟨[(2, (.v (.bool false), []))], [], []⟩ _ (by kernel_rfl) .nil ?_
                refine Wc.ret ?_
                obtain rfl := Option.some.inj h58
                obtain rfl := Option.some.inj h
                exact ⟨.inl rfl, by kernel_rfl, by kernel_rfl⟩
              · refine Wc.condF h67 (by kernel_rfl) ?_
                refine Wc.fix (st' := ⟨[(0, (.v (.str e66_), [])), (3, (.v (.int .i64 b67_), []))], [], []⟩) [] [0, 3] [] [] (by kernel_rfl) ?_
                refine Wc.skip ?_
                refine Wc.region [] [] [0, 3] [] [] ⟨[(0, (.v (.str e66_), [])), (3, (.v (.int .i64 (wr.i64 (b67_ + 1))), []))], [], []⟩ _ (by kernel_rfl) .nil ?_
                exact ⟨_, Nat.lt_succ_self _, _, rfl, h58⟩
      · refine Wc.condF h59 (by kernel_rfl) ?_
        refine Wc.fix (st' := ⟨[(0, (.v (.str e66_), []))], [], []⟩) [] [0] [] [] (by kernel_rfl) ?_
        refine Wc.exit ?_
        obtain rfl := Option.some.inj h58
        exact ⟨rfl, rfl⟩
  · rintro st ⟨rfl, rfl⟩
    refine Wc.seq ?_
    obtain ⟨d68_, h68, h⟩ := obind h
    refine Wc.region [{}, {}, { r := some (.v (.bool d68_) []) }] [] [2] [] [] ⟨[(2, (.v (.bool d68_), []))], [], []⟩ _ (by kernel_rfl) (.cons (cspec_l01In h68) .nil) ?_
    refine Wc.ret ?_
    obtain rfl := Option.some.inj h
    exact ⟨.inl rfl, by kernel_rfl, by kernel_rfl⟩

/-- spec.l03One -/
def pspec_l03One (k : Nat) (c69_ : GTerm) : Option Bool :=
  if (c69_.gKind == 1) = true then
    (pspec_l01In k c69_.gNum 0 99999).bind fun d70_ =>
    if d70_ = true then
      if (sEq c69_.gName (bs [])) = true then
        some ((c69_.gKids.length : Int) == 0)
      else
        some false
    else
      some false
  else
    if (c69_.gKind == 2) = true then
      (pspec_l03Name k c69_.gName).bind fun d71_ =>
      if d71_ = true then
        if (c69_.gNum == 0) = true then
          some ((c69_.gKids.length : Int) == 0)
        else
          some false
      else
        some false
    else
      if (c69_.gKind == 3) = true then
        (pspec_l01In k c69_.gNum (-999999999) 999999999).bind fun d72_ =>
        if d72_ = true then
          if (sEq c69_.gName (bs [])) = true then
            some ((c69_.gKids.length : Int) == 0)
          else
            some false
        else
          some false
      else
        if (c69_.gKind == 4) = true then
          (pspec_l03Name k c69_.gName).bind fun d73_ =>
          if d73_ = true then
            if (c69_.gNum == 0) = true then
              (pspec_l01In k (c69_.gKids.length : Int) 1 5).bind fun d74_ =>
              some d74_
            else
              some false
          else
            some false
        else
          some false
theorem cspec_l03One {k : Nat} {c69_ : GTerm} {r : Bool} (h : pspec_l03One k c69_ = some r) : FnO Try.prog 115 [.v (.agg [.int .i64 c69_.gKind, .str c69_.gName, .int .i64 c69_.gNum, .sl (List.map GTerm.c c69_.gKids)]) []] (.v (.bool r) []) [] := by
  refine FnO.of Try.func115 (rfl : Try.f115.body = some _) (Nat.le_of_ble_eq_true (by kernel_rfl)) (Nat.le_of_ble_eq_true (by kernel_rfl)) ?_
  intro w0 X0 Fin pv0 pb
  unfold pspec_l03One at h
  refine Wc.seq ?_
  refine Wc.region [] [] [1] [1] [] ⟨[(1, (.ptr 1 0, []))], [(1, .cells [.int .i64 c69_.gKind, .str c69_.gName, .int .i64 c69_.gNum, .sl (List.map GTerm.c c69_.gKids)] [])], []⟩ _ (by kernel_rfl) .nil ?_
  refine Wc.seq ?_
  refine Wc.seq ?_
  refine Wc.region [] [] [1, 4] [1] [] ⟨[(1, (.ptr 1 0, [])), (4, (.v (.int .i64 c69_.gKind), []))], [(1, .cells [.int .i64 c69_.gKind, .str c69_.gName, .int .i64 c69_.gNum, .sl (List.map GTerm.c c69_.gKids)] [])], []⟩ _ (by kernel_rfl) .nil ?_
  refine Wc.block ?_
  refine Wc.seq ?_
  refine Wc.region [] [] [1, 4, 5] [1] [] ⟨[(1, (.ptr 1 0, [])), (4, (.v (.int .i64 c69_.gKind), [])), (5, (.v (.bool (c69_.gKind == 1)), []))], [(1, .cells [.int .i64 c69_.gKind, .str c69_.gName, .int .i64 c69_.gNum, .sl (List.map GTerm.c c69_.gKids)] [])], []⟩ _ (by kernel_rfl) .nil ?_
  rcases oif h with ⟨h69, h⟩ | ⟨h69, h⟩
  · refine Wc.condT h69 (by kernel_rfl) ?_
    refine Wc.seq ?_
    obtain ⟨d70_, h70, h⟩ := obind h
    rcases oif h with ⟨h71, h⟩ | ⟨h71, h⟩
    · rcases oif h with ⟨h72, h⟩ | ⟨h72, h⟩
      · refine Wc.region [{}, {}, { r := some (.v (.bool d70_) []) }, { re := some (.bool true) }, {}, {}, {}, {}, { re := some (.bool true) }, {}, {}, { v := some (.int .i64 (c69_.gKids.length : Int)) }] [] [2] [] [] ⟨[(2, (.v (.bool ((c69_.gKids.length : Int) == 0)), []))], [], []⟩ _ (by kernel_rfl) (.cons (cspec_l01In h70) (.cons (congrArg AV.bool h71) (.cons (congrArg AV.bool h72) (.cons (len_obl GTerm.c c69_.gKids) .nil)))) ?_
        refine Wc.ret ?_
        obtain rfl := Option.some.inj h
        exact ⟨.inl rfl, by kernel_rfl, by kernel_rfl⟩
      · refine Wc.region [{}, {}, { r := some (.v (.bool d70_) []) }, { re := some (.bool true) }, {}, {}, {}, {}, { re := some (.bool false) }] [] [2] [] [] ⟨[(2, (.v (.bool false), []))], [], []⟩ _ (by kernel_rfl) (.cons (cspec_l01In h70) (.cons (congrArg AV.bool h71) (.cons (congrArg AV.bool h72) .nil))) ?_
        refine Wc.ret ?_
        obtain rfl := Option.some.inj h
        exact ⟨.inl rfl, by kernel_rfl, by kernel_rfl⟩
    · refine Wc.region [{}, {}, { r := some (.v (.bool d70_) []) }, { re := some (.bool false) }] [] [2] [] [] ⟨[(2, (.v (.bool false), []))], [], []⟩ _ (by kernel_rfl) (.cons (cspec_l01In h70) (.cons (congrArg AV.bool h71) .nil)) ?_
      refine Wc.ret ?_
      obtain rfl := Option.some.inj h
      exact ⟨.inl rfl, by kernel_rfl, by kernel_rfl⟩
  · refine Wc.condF h69 (by kernel_rfl) ?_
    refine Wc.seq ?_
    refine Wc.region [] [] [1, 4, 21] [1] [] ⟨[(1, (.ptr 1 0, [])), (4, (.v (.int .i64 c69_.gKind), [])), (21, (.v (.bool (c69_.gKind == 2)), []))], [(1, .cells [.int .i64 c69_.gKind, .str c69_.gName, .int .i64 c69_.gNum, .sl (List.map GTerm.c c69_.gKids)] [])], []⟩ _ (by kernel_rfl) .nil ?_
    rcases oif h with ⟨h73, h⟩ | ⟨h73, h⟩
    · refine Wc.condT h73 (by kernel_rfl) ?_
      refine Wc.seq ?_
      obtain ⟨d71_, h74, h⟩ := obind h
      rcases oif h with ⟨h75, h⟩ | ⟨h75, h⟩
      · rcases oif h with ⟨h76, h⟩ | ⟨h76, h⟩
        · refine Wc.region [{}, {}, { r := some (.v (.bool d71_) []) }, { re := some (.bool true) }, {}, {}, {}, {}, { re := some (.bool true) }, {}, {}, { v := some (.int .i64 (c69_.gKids.length : Int)) }] [] [2] [] [] ⟨[(2, (.v (.bool ((c69_.gKids.length : Int) == 0)), []))], [], []⟩ _ (by kernel_rfl) (.cons (cspec_l03Name h74) (.cons (congrArg AV.bool h75) (.cons (congrArg AV.bool h76) (.cons (len_obl GTerm.c c69_.gKids) .nil)))) ?_
          refine Wc.ret ?_
          obtain rfl := Option.some.inj h
          exact ⟨.inl rfl, by kernel_rfl, by kernel_rfl⟩
        · refine Wc.region [{}, {}, { r := some (.v (.bool d71_) []) }, { re := some (.bool true) }, {}, {}, {}, {}, { re := some (.bool false) }] [] [2] [] [] ⟨[(2, (.v (.bool false), []))], [], []⟩ _ (by kernel_rfl) (.cons (cspec_l03Name h74) (.cons (congrArg AV.bool h75) (.cons (congrArg AV.bool h76) .nil))) ?_
          refine Wc.ret ?_
          obtain rfl := Option.some.inj h
          exact ⟨.inl rfl, by kernel_rfl, by kernel_rfl⟩
      · refine Wc.region [{}, {}, { r := some (.v (.bool d71_) []) }, { re := some (.bool false) }] [] [2] [] [] ⟨[(2, (.v (.bool false), []))], [], []⟩ _ (by kernel_rfl) (.cons (cspec_l03Name h74) (.cons (congrArg AV.bool h75) .nil)) ?_
        refine Wc.ret ?_
        obtain rfl := Option.some.inj h
        exact ⟨.inl rfl, by kernel_rfl, by kernel_rfl⟩
    · refine Wc.condF h73 (by kernel_rfl) ?_
      refine Wc.seq ?_
      refine Wc.region [] [] [1, 4, 37] [1] [] ⟨[(1, (.ptr 1 0, [])), (4, (.v (.int .i64 c69_.gKind), [])), (37, (.v (.bool (c69_.gKind == 3)), []))], [(1, .cells [.int .i64 c69_.gKind, .str c69_.gName, .int .i64 c69_.gNum, .sl (List.map GTerm.c c69_.gKids)] [])], []⟩ _ (by kernel_rfl) .nil ?_
      rcases oif h with ⟨h77, h⟩ | ⟨h77, h⟩
      · refine Wc.condT h77 (by kernel_rfl) ?_
        refine Wc.seq ?_
        obtain ⟨d72_, h78, h⟩ := obind h
        rcases oif h with ⟨h79, h⟩ | ⟨h79, h⟩
        · rcases oif h with ⟨h80, h⟩ | ⟨h80, h⟩
          · refine Wc.region [{}, {}, { r := some (.v (.bool d72_) []) }, { re := some (.bool true) }, {}, {}, {}, {}, { re := some (.bool true) }, {}, {}, { v := some (.int .i64 (c69_.gKids.length : Int)) }] [] [2] [] [] ⟨[(2, (.v (.bool ((c69_.gKids.length : Int) == 0)), []))], [], []⟩ _ (by kernel_rfl) (.cons (cspec_l01In h78) (.cons (congrArg AV.bool h79) (.cons (congrArg AV.bool h80) (.cons (len_obl GTerm.c c69_.gKids) .nil)))) ?_
            refine Wc.ret ?_
            obtain rfl := Option.some.inj h
            exact ⟨.inl rfl, by kernel_rfl, by kernel_rfl⟩
          · refine Wc.region [{}, {}, { r := some (.v (.bool d72_) []) }, { re := some (.bool true) }, {}, {}, {}, {}, { re := some (.bool false) }] [] [2] [] [] ⟨[(2, (.v (.bool false), []))], [], []⟩ _ (by kernel_rfl) (.cons (cspec_l01In h78) (.cons (congrArg AV.bool h79) (.cons (congrArg AV.bool h80) .nil))) ?_
            refine Wc.ret ?_
            obtain rfl := Option.some.inj h
            exact ⟨.inl rfl, by kernel_rfl, by kernel_rfl⟩
        · refine Wc.region [{}, {}, { r := some (.v (.bool d72_) []) }, { re := some (.bool false) }] [] [2] [] [] ⟨[(2, (.v (.bool false), []))], [], []⟩ _ (by kernel_rfl) (.cons (cspec_l01In h78) (.cons (congrArg AV.bool h79) .nil)) ?_
          refine Wc.ret ?_
          obtain rfl := Option.some.inj h
          exact ⟨.inl rfl, by kernel_rfl, by kernel_rfl⟩
      · refine Wc.condF h77 (by kernel_rfl) ?_
        refine Wc.seq ?_
        refine Wc.region [] [] [1, 53] [1] [] ⟨[(1, (.ptr 1 0, [])), (53, (.v (.bool (c69_.gKind == 4)), []))], [(1, .cells [.int .i64 c69_.gKind, .str c69_.gName, .int .i64 c69_.gNum, .sl (List.map GTerm.c c69_.gKids)] [])], []⟩ _ (by kernel_rfl) .nil ?_
        rcases oif h with ⟨h81, h⟩ | ⟨h81, h⟩
        · refine Wc.condT h81 (by kernel_rfl) ?_
          refine Wc.seq ?_
          obtain ⟨d73_, h82, h⟩ := obind h
          rcases oif h with ⟨h83, h⟩ | ⟨h83, h⟩
          · rcases oif h with ⟨h84, h⟩ | ⟨h84, h⟩
            · obtain ⟨d74_, h85, h⟩ := obind h
              refine Wc.region [{}, {}, { r := some (.v (.bool d73_) []) }, { re := some (.bool true) }, {}, {}, {}, {}, { re := some (.bool true) }, {}, {}, { v := some (.int .i64 (c69_.gKids.length : Int)) }, { r := some (.v (.bool d74_) []) }] [] [2] [] [] ⟨[(2, (.v (.bool d74_), []))], [], []⟩ _ (by kernel_rfl) (.cons (cspec_l03Name h82) (.cons (congrArg AV.bool h83) (.cons (congrArg AV.bool h84) (.cons (len_obl GTerm.c c69_.gKids) (.cons (cspec_l01In h85) .nil))))) ?_
              refine Wc.ret ?_
              obtain rfl := Option.some.inj h
              exact ⟨.inl rfl, by kernel_rfl, by kernel_rfl⟩
            · refine Wc.region [{}, {}, { r := some (.v (.bool d73_) []) }, { re := some (.bool true) }, {}, {}, {}, {}, { re := some (.bool false) }] [] [2] [] [] ⟨[(2, (.v (.bool false), []))], [], []⟩ _ (by kernel_rfl) (.cons (cspec_l03Name h82) (.cons (congrArg AV.bool h83) (.cons (congrArg AV.bool h84) .nil))) ?_
              refine Wc.ret ?_
              obtain rfl := Option.some.inj h
              exact ⟨.inl rfl, by kernel_rfl, by kernel_rfl⟩
          · refine Wc.region [{}, {}, { r := some (.v (.bool d73_) []) }, { re := some (.bool false) }] [] [2] [] [] ⟨[(2, (.v (.bool false), []))], [], []⟩ _ (by kernel_rfl) (.cons (cspec_l03Name h82) (.cons (congrArg AV.bool h83) .nil)) ?_
            refine Wc.ret ?_
            obtain rfl := Option.some.inj h
            exact ⟨.inl rfl, by kernel_rfl, by kernel_rfl⟩
        · refine Wc.condF h81 (by kernel_rfl) ?_
          refine Wc.fix (st' := ⟨[], [], []⟩) [] [] [] [] (by kernel_rfl) ?_
          refine Wc.skip ?_
          refine Wc.seq ?_
          refine Wc.region [] [] [2] [] [] ⟨[(2, (.v (.bool false), []))], [], []⟩ _ (by kernel_rfl) .nil ?_
          refine Wc.ret ?_
          obtain rfl := Option.some.inj h
          exact ⟨.inl rfl, by kernel_rfl, by kernel_rfl⟩

def pspec_l03Right_L1 (k : Nat) (rspec_l03Right : GTerm → Int → Option Bool) (c75_ : GTerm) (b76_ : Int) : Nat → Int → Option (Out Bool Unit)
  | 0, _ => none
  | m + 1, b78_ =>
    if (decide (b78_ < (c75_.gKids.length : Int))) = true then
      (at' c75_.gKids b78_).bind fun c79_ =>
      (rspec_l03Right c79_ (wr.i64 (b76_ + 1))).bind fun d80_ =>
      if (!d80_) = true then
        some (.ret false)
      else
        pspec_l03Right_L1 k rspec_l03Right c75_ b76_ m (wr.i64 (b78_ + 1))
    else
      some (.done ())
mutual
/-- spec.l03Right -/
def pspec_l03Right : Nat → GTerm → Int → Option Bool
  | 0, _, _ => none
  | k + 1, c75_, b76_ =>
    if (decide (b76_ > 40)) = true then
      some false
    else
      (pspec_l03One k c75_).bind fun d77_ =>
      if (!d77_) = true then
        some false
      else
        (pspec_l03Right_L1 k (pspec_l03Right k) c75_ b76_ k 0).bind fun out1 => match out1 with
        | .ret r => some r
        | .done () =>
          some true
end
theorem all_pspec_l03Right : ∀ k : Nat, (∀ {c75_ : GTerm} {b76_ : Int} {r : Bool}, pspec_l03Right k c75_ b76_ = some r → FnO Try.prog 113 [.v (.agg [.int .i64 c75_.gKind, .str c75_.gName, .int .i64 c75_.gNum, .sl (List.map GTerm.c c75_.gKids)]) [], .v (.int .i64 b76_) []] (.v (.bool r) []) []) := by
  intro k
  induction k with
  | zero =>
    · intro c75_ b76_ r h
      exact (onone (by rw [pspec_l03Right] at h; exact h)).elim
  | succ k ih =>
    have ih_pspec_l03Right := @ih
    · intro c75_ b76_ r h
      rw [pspec_l03Right] at h
      refine FnO.of Try.func113 (rfl : Try.f113.body = some _) (Nat.le_of_ble_eq_true (by kernel_rfl)) (Nat.le_of_ble_eq_true (by kernel_rfl)) ?_
      intro w0 X0 Fin pv0 pb
      refine Wc.seq ?_
      refine Wc.region [] [] [1, 2] [2] [] ⟨[(1, (.v (.int .i64 b76_), [])), (2, (.ptr 2 0, []))], [(2, .cells [.int .i64 c75_.gKind, .str c75_.gName, .int .i64 c75_.gNum, .sl (List.map GTerm.c c75_.gKids)] [])], []⟩ _ (by kernel_rfl) .nil ?_
      refine Wc.seq ?_
      refine Wc.seq ?_
      rcases oif h with ⟨h86, h⟩ | ⟨h86, h⟩
      · refine Wc.region [{}, {}, { re := some (.bool true) }] [] [1, 2, 12] [2] [] ⟨[(1, (.v (.int .i64 b76_), [])), (2, (.ptr 2 0, [])), (12, (.v (.bool true), []))], [(2, .cells [.int .i64 c75_.gKind, .str c75_.gName, .int .i64 c75_.gNum, .sl (List.map GTerm.c c75_.gKids)] [])], []⟩ _ (by kernel_rfl) (.cons (congrArg AV.bool h86) .nil) ?_
        refine Wc.condT rfl (by kernel_rfl) ?_
        refine Wc.seq ?_
        refine Wc.region [] [] [4] [] [] ⟨[(4, (.v (.bool false), []))], [], []⟩ _ (by kernel_rfl) .nil ?_
        refine Wc.ret ?_
        obtain rfl := Option.some.inj h
        exact ⟨.inl rfl, by kernel_rfl, by kernel_rfl⟩
      · obtain ⟨d77_, h87, h⟩ := obind h
        refine Wc.region [{}, {}, { re := some (.bool false) }, {}, { r := some (.v (.bool d77_) []) }] [] [1, 2, 12] [2] [] ⟨[(1, (.v (.int .i64 b76_), [])), (2, (.ptr 2 0, [])), (12, (.v (.bool (!d77_)), []))], [(2, .cells [.int .i64 c75_.gKind, .str c75_.gName, .int .i64 c75_.gNum, .sl (List.map GTerm.c c75_.gKids)] [])], []⟩ _ (by kernel_rfl) (.cons (congrArg AV.bool h86) (.cons (cspec_l03One h87) .nil)) ?_
        rcases oif h with ⟨h88, h⟩ | ⟨h88, h⟩
        · refine Wc.condT h88 (by kernel_rfl) ?_
          refine Wc.seq ?_
          refine Wc.region [] [] [4] [] [] ⟨[(4, (.v (.bool false), []))], [], []⟩ _ (by kernel_rfl) .nil ?_
          refine Wc.ret ?_
          obtain rfl := Option.some.inj h
          exact ⟨.inl rfl, by kernel_rfl, by kernel_rfl⟩
        · refine Wc.condF h88 (by kernel_rfl) ?_
          refine Wc.fix (st' := ⟨[(1, (.v (.int .i64 b76_), [])), (2, (.ptr 2 0, []))], [(2, .cells [.int .i64 c75_.gKind, .str c75_.gName, .int .i64 c75_.gNum, .sl (List.map GTerm.c c75_.gKids)] [])], []⟩) [] [1, 2] [2] [] (by kernel_rfl) ?_
          refine Wc.skip ?_
          refine Wc.seq ?_
          refine Wc.seq ?_
          refine Wc.region [] [] [1, 2, 5] [2] [] ⟨[(1, (.v (.int .i64 b76_), [])), (2, (.ptr 2 0, [])), (5, (.v (.int .i64 0), []))], [(2, .cells [.int .i64 c75_.gKind, .str c75_.gName, .int .i64 c75_.gNum, .sl (List.map GTerm.c c75_.gKids)] [])], []⟩ _ (by kernel_rfl) .nil ?_
          obtain ⟨out1, h89, h⟩ := obind h
          refine Wc.lastJ (fun st => out1 = .done () ∧ st = ⟨[], [], []⟩) ?_ ?_
          · refine Wc.block ?_
            refine Wc.loop (fun m st => ∃ (b78_ : Int), st = ⟨[(1, (.v (.int .i64 b76_), [])), (2, (.ptr 2 0, [])), (5, (.v (.int .i64 b78_), []))], [(2, .cells [.int .i64 c75_.gKind, .str c75_.gName, .int .i64 c75_.gNum, .sl (List.map GTerm.c c75_.gKids)] [])], []⟩ ∧ pspec_l03Right_L1 k (pspec_l03Right k) c75_ b76_ m b78_ = some out1) ?_ k ⟨_, rfl, h89⟩
            rintro m st ⟨b78_, rfl, h89⟩
            cases m with
            | zero => exact (onone h89).elim
            | succ m =>
              refine Wc.seq ?_
              refine Wc.seq ?_
              refine Wc.region [{}, {}, {}, { v := some (.int .i64 (c75_.gKids.length : Int)) }] [] [1, 2, 5, 17] [2] [] ⟨[(1, (.v (.int .i64 b76_), [])), (2, (.ptr 2 0, [])), (5, (.v (.int .i64 b78_), [])), (17, (.v (.bool (decide (b78_ < (c75_.gKids.length : Int)))), []))], [(2, .cells [.int .i64 c75_.gKind, .str c75_.gName, .int .i64 c75_.gNum, .sl (List.map GTerm.c c75_.gKids)] [])], []⟩ _ (by kernel_rfl) (.cons (len_obl GTerm.c c75_.gKids) .nil) ?_
              rcases oif h89 with ⟨h90, h89⟩ | ⟨h90, h89⟩
              · refine Wc.condT h90 (by kernel_rfl) ?_
                refine Wc.fix (st' := ⟨[(1, (.v (.int .i64 b76_), [])), (2, (.ptr 2 0, [])), (5, (.v (.int .i64 b78_), []))], [(2, .cells [.int .i64 c75_.gKind, .str c75_.gName, .int .i64 c75_.gNum, .sl (List.map GTerm.c c75_.gKids)] [])], []⟩) [] [1, 2, 5] [2] [] (by kernel_rfl) ?_
                refine Wc.skip ?_
                refine Wc.seq ?_
                refine Wc.block ?_
                refine Wc.seq ?_
                obtain ⟨c79_, h91, h89⟩ := obind h89
                obtain ⟨d80_, h92, h89⟩ := obind h89
                refine Wc.region [{}, {}, {}, { v := some (.vptr [.int .i64 c79_.gKind, .str c79_.gName, .int .i64 c79_.gNum, .sl (List.map GTerm.c c79_.gKids)]) }, {}, {}, {}, { r := some (.v (.bool d80_) []) }] [] [1, 2, 5, 28] [2] [] ⟨[(1, (.v (.int .i64 b76_), [])), (2, (.ptr 2 0, [])), (5, (.v (.int .i64 b78_), [])), (28, (.v (.bool (!d80_)), []))], [(2, .cells [.int .i64 c75_.gKind, .str c75_.gName, .int .i64 c75_.gNum, .sl (List.map GTerm.c c75_.gKids)] [])], []⟩ _ (by kernel_rfl) (.cons (at_obl (c := GTerm.c) (GTerm.c_eq c79_) GTerm.c_len h91) (.cons (len_ok 4 [.int .i64 c79_.gKind, .str c79_.gName, .int .i64 c79_.gNum, .sl (List.map GTerm.c c79_.gKids)]) (.cons (ih_pspec_l03Right h92) .nil))) ?_
                rcases oif h89 with ⟨h93, h89⟩ | ⟨h93, h89⟩
                · refine Wc.condT h93 (by kernel_rfl) ?_
                  refine Wc.seq ?_
                  refine Wc.region [] [] [4] [] [] ⟨[(4, (.v (.bool false), []))], [], []⟩ _ (by kernel_rfl) .nil ?_
                  refine Wc.ret ?_
                  obtain rfl := Option.some.inj h89
                  obtain rfl := Option.some.inj h
                  exact ⟨.inl rfl, by kernel_rfl, by kernel_rfl⟩
                · refine Wc.condF h93 (by kernel_rfl) ?_
                  refine Wc.fix (st' := ⟨[(1, (.v (.int .i64 b76_), [])), (2, (.ptr 2 0, [])), (5, (.v (.int .i64 b78_), []))], [(2, .cells [.int .i64 c75_.gKind, .str c75_.gName, .int .i64 c75_.gNum, .sl (List.map GTerm.c c75_.gKids)] [])], []⟩) [] [1, 2, 5] [2] [] (by kernel_rfl) ?_
                  refine Wc.skip ?_
                  refine Wc.region [] [] [1, 2, 5] [2] [] ⟨[(1, (.v (.int .i64 b76_), [])), (2, (.ptr 2 0, [])), (5, (.v (.int .i64 (wr.i64 (b78_ + 1))), []))], [(2, .cells [.int .i64 c75_.gKind, .str c75_.gName, .int .i64 c75_.gNum, .sl (List.map GTerm.c c75_.gKids)] [])], []⟩ _ (by kernel_rfl) .nil ?_
                  exact ⟨_, Nat.lt_succ_self _, _, rfl, h89⟩
              · refine Wc.condF h90 (by kernel_rfl) ?_
                refine Wc.fix (st' := ⟨[], [], []⟩) [] [] [] [] (by kernel_rfl) ?_
                refine Wc.exit ?_
                obtain rfl := Option.some.inj h89
                exact ⟨rfl, rfl⟩
          · rintro st ⟨rfl, rfl⟩
            refine Wc.seq ?_
            refine Wc.region [] [] [4] [] [] ⟨[(4, (.v (.bool true), []))], [], []⟩ _ (by kernel_rfl) .nil ?_
            refine Wc.ret ?_
            obtain rfl := Option.some.inj h
            exact ⟨.inl rfl, by kernel_rfl, by kernel_rfl⟩
theorem cspec_l03Right {k : Nat} {c75_ : GTerm} {b76_ : Int} {r : Bool} (h : pspec_l03Right k c75_ b76_ = some r) : FnO Try.prog 113 [.v (.agg [.int .i64 c75_.gKind, .str c75_.gName, .int .i64 c75_.gNum, .sl (List.map GTerm.c c75_.gKids)]) [], .v (.int .i64 b76_) []] (.v (.bool r) []) [] := (all_pspec_l03Right k) h

/-- spec.TermOk -/
def pspec_TermOk (k : Nat) (c81_ : GTerm) : Option Bool :=
  (pspec_l03Count k c81_ 400).bind fun b82_ =>
  if (decide (b82_ ≥ 0)) = true then
    (pspec_l03Right k c81_ 1).bind fun d83_ =>
    some d83_
  else
    some false
theorem cspec_TermOk {k : Nat} {c81_ : GTerm} {r : Bool} (h : pspec_TermOk k c81_ = some r) : FnO Try.prog 99 [.v (.agg [.int .i64 c81_.gKind, .str c81_.gName, .int .i64 c81_.gNum, .sl (List.map GTerm.c c81_.gKids)]) []] (.v (.bool r) []) [] := by
  refine FnO.of Try.func99 (rfl : Try.f99.body = some _) (Nat.le_of_ble_eq_true (by kernel_rfl)) (Nat.le_of_ble_eq_true (by kernel_rfl)) ?_
  intro w0 X0 Fin pv0 pb
  unfold pspec_TermOk at h
  refine Wc.seq ?_
  refine Wc.region [] [] [1] [1] [] ⟨[(1, (.ptr 1 0, []))], [(1, .cells [.int .i64 c81_.gKind, .str c81_.gName, .int .i64 c81_.gNum, .sl (List.map GTerm.c c81_.gKids)] [])], []⟩ _ (by kernel_rfl) .nil ?_
  refine Wc.seq ?_
  obtain ⟨b82_, h94, h⟩ := obind h
  rcases oif h with ⟨h95, h⟩ | ⟨h95, h⟩
  · obtain ⟨d83_, h96, h⟩ := obind h
    refine Wc.region [{}, { r := some (.v (.int .i64 b82_) []) }, {}, { re := some (.bool true) }, {}, { r := some (.v (.bool d83_) []) }] [] [2] [] [] ⟨[(2, (.v (.bool d83_), []))], [], []⟩ _ (by kernel_rfl) (.cons (cspec_l03Count h94) (.cons (congrArg AV.bool h95) (.cons (cspec_l03Right h96) .nil))) ?_
    refine Wc.ret ?_
    obtain rfl := Option.some.inj h
    exact ⟨.inl rfl, by kernel_rfl, by kernel_rfl⟩
  · refine Wc.region [{}, { r := some (.v (.int .i64 b82_) []) }, {}, { re := some (.bool false) }] [] [2] [] [] ⟨[(2, (.v (.bool false), []))], [], []⟩ _ (by kernel_rfl) (.cons (cspec_l03Count h94) (.cons (congrArg AV.bool h95) .nil)) ?_
    refine Wc.ret ?_
    obtain rfl := Option.some.inj h
    exact ⟨.inl rfl, by kernel_rfl, by kernel_rfl⟩

/-- spec.l03Two -/
def pspec_l03Two (k : Nat) (e87_ : ByteArray) (c88_ : GTerm) (c89_ : GTerm) : Option GTerm :=
  some (GTerm.mk 4 e87_ 0 [c88_, c89_])
theorem cspec_l03Two {k : Nat} {e87_ : ByteArray} {c88_ : GTerm} {c89_ : GTerm} {r : GTerm} (h : pspec_l03Two k e87_ c88_ c89_ = some r) : FnO Try.prog 57 [.v (.str e87_) [], .v (.agg [.int .i64 c88_.gKind, .str c88_.gName, .int .i64 c88_.gNum, .sl (List.map GTerm.c c88_.gKids)]) [], .v (.agg [.int .i64 c89_.gKind, .str c89_.gName, .int .i64 c89_.gNum, .sl (List.map GTerm.c c89_.gKids)]) []] (.v (.agg [.int .i64 r.gKind, .str r.gName, .int .i64 r.gNum, .sl (List.map GTerm.c r.gKids)]) [(3, .app 40)]) [] := by
  refine FnO.of Try.func57 (rfl : Try.f57.body = some _) (Nat.le_of_ble_eq_true (by kernel_rfl)) (Nat.le_of_ble_eq_true (by kernel_rfl)) ?_
  intro w0 X0 Fin pv0 pb
  unfold pspec_l03Two at h
  refine Wc.seq ?_
  refine Wc.region [] [] [0, 4, 5, 6] [4, 5, 6] [] ⟨[(0, (.v (.str e87_), [])), (4, (.ptr 4 0, [])), (5, (.ptr 5 0, [])), (6, (.ptr 6 0, []))], [(4, .cells [.int .i64 c88_.gKind, .str c88_.gName, .int .i64 c88_.gNum, .sl (List.map GTerm.c c88_.gKids)] []), (5, .cells [.int .i64 c89_.gKind, .str c89_.gName, .int .i64 c89_.gNum, .sl (List.map GTerm.c c89_.gKids)] []), (6, .cells [.int .i64 0, .str (bs []), .int .i64 0, .sl (List.map GTerm.c [])] [(3, .app 40)])], []⟩ _ (by kernel_rfl) .nil ?_
  refine Wc.seq ?_
  refine Wc.region [{}, {}, {}, { c := some (List.map GTerm.c [c88_, c89_]) }, { tk := [10] }, { tk := [11] }] [] [6] [6] [] ⟨[(6, (.ptr 6 0, []))], [(6, .cells [.int .i64 4, .str e87_, .int .i64 0, .sl (List.map GTerm.c [c88_, c89_])] [(3, .app 40)])], []⟩ _ (by kernel_rfl) (.cons (cl_cons (c := GTerm.c) (x := c88_) (GTerm.c_eq c88_) (cl_cons (c := GTerm.c) (x := c89_) (GTerm.c_eq c89_) (cl_nil GTerm.c))) .nil) ?_
  refine Wc.ret ?_
  obtain rfl := Option.some.inj h
  exact ⟨.inl rfl, by kernel_rfl, by kernel_rfl⟩

def pspec_l21Make_L1 (k : Nat) (a97_ : List GTerm) : Nat → Int → GTerm → Option (Out GTerm GTerm)
  | 0, _, _ => none
  | m + 1, b99_, c100_ =>
    if (decide (b99_ ≥ 0)) = true then
      (at' a97_ b99_).bind fun c102_ =>
      (pspec_l03Two k (bs [46]) c102_ c100_).bind fun c103_ =>
      pspec_l21Make_L1 k a97_ m (wr.i64 (b99_ - 1)) c103_
    else
      some (.done c100_)
/-- spec.l21Make -/
def pspec_l21Make (k : Nat) (a97_ : List GTerm) : Option GTerm :=
  (pspec_l03Atom k (bs [91, 93])).bind fun c98_ =>
  (pspec_l21Make_L1 k a97_ k (wr.i64 ((a97_.length : Int) - 1)) c98_).bind fun out1 => match out1 with
  | .ret r => some r
  | .done c101_ =>
    some c101_
theorem cspec_l21Make {k : Nat} {a97_ : List GTerm} {r : GTerm} (h : pspec_l21Make k a97_ = some r) : FnO Try.prog 105 [.v (.sl (List.map GTerm.c a97_)) []] (.v (.agg [.int .i64 r.gKind, .str r.gName, .int .i64 r.gNum, .sl (List.map GTerm.c r.gKids)]) [(3, .app 40)]) [] := by
  refine FnO.of Try.func105 (rfl : Try.f105.body = some _) (Nat.le_of_ble_eq_true (by kernel_rfl)) (Nat.le_of_ble_eq_true (by kernel_rfl)) ?_
  intro w0 X0 Fin pv0 pb
  unfold pspec_l21Make at h
  refine Wc.seq ?_
  refine Wc.region [] [] [0, 2] [2] [] ⟨[(0, (.v (.sl (List.map GTerm.c a97_)), [])), (2, (.ptr 2 0, []))], [(2, .cells [.int .i64 0, .str (bs []), .int .i64 0, .sl (List.map GTerm.c [])] [(3, .app 40)])], []⟩ _ (by kernel_rfl) .nil ?_
  refine Wc.seq ?_
  obtain ⟨c98_, h102, h⟩ := obind h
  refine Wc.region [{ r := some (.v (.agg [.int .i64 c98_.gKind, .str c98_.gName, .int .i64 c98_.gNum, .sl (List.map GTerm.c c98_.gKids)]) [(3, .app 40)]) }, {}, { tk := [5] }] [] [0, 2, 3] [2, 3] [] ⟨[(0, (.v (.sl (List.map GTerm.c a97_)), [])), (2, (.ptr 2 0, [])), (3, (.ptr 3 0, []))], [(2, .cells [.int .i64 0, .str (bs []), .int .i64 0, .sl (List.map GTerm.c [])] [(3, .app 40)]), (3, .cells [.int .i64 c98_.gKind, .str c98_.gName, .int .i64 c98_.gNum, .sl (List.map GTerm.c c98_.gKids)] [(3, .app 40)])], []⟩ _ (by kernel_rfl) (.cons (cspec_l03Atom h102) .nil) ?_
  refine Wc.seq ?_
  refine Wc.seq ?_
  refine Wc.region [{}, { v := some (.int .i64 (a97_.length : Int)) }] [] [0, 2, 3, 4] [2, 3] [] ⟨[(0, (.v (.sl (List.map GTerm.c a97_)), [])), (2, (.ptr 2 0, [])), (3, (.ptr 3 0, [])), (4, (.v (.int .i64 (wr.i64 ((a97_.length : Int) - 1))), []))], [(2, .cells [.int .i64 0, .str (bs []), .int .i64 0, .sl (List.map GTerm.c [])] [(3, .app 40)]), (3, .cells [.int .i64 c98_.gKind, .str c98_.gName, .int .i64 c98_.gNum, .sl (List.map GTerm.c c98_.gKids)] [(3, .app 40)])], []⟩ _ (by kernel_rfl) (.cons (len_obl GTerm.c a97_) .nil) ?_
  obtain ⟨out1, h103, h⟩ := obind h
  refine Wc.lastJ (fun st => ∃ (c101_ : GTerm), out1 = .done c101_ ∧ st = ⟨[(2, (.ptr 2 0, [])), (3, (.ptr 3 0, []))], [(2, .cells [.int .i64 0, .str (bs []), .int .i64 0, .sl (List.map GTerm.c [])] [(3, .app 40)]), (3, .cells [.int .i64 c101_.gKind, .str c101_.gName, .int .i64 c101_.gNum, .sl (List.map GTerm.c c101_.gKids)] [(3, .app 40)])], []⟩) ?_ ?_
  · refine Wc.block ?_
    refine Wc.loop (fun m st => ∃ (b99_ : Int) (c100_ : GTerm), st = ⟨[(0, (.v (.sl (List.map GTerm.c a97_)), [])), (2, (.ptr 2 0, [])), (3, (.ptr 3 0, [])), (4, (.v (.int .i64 b99_), []))], [(2, .cells [.int .i64 0, .str (bs []), .int .i64 0, .sl (List.map GTerm.c [])] [(3, .app 40)]), (3, .cells [.int .i64 c100_.gKind, .str c100_.gName, .int .i64 c100_.gNum, .sl (List.map GTerm.c c100_.gKids)] [(3, .app 40)])], []⟩ ∧ pspec_l21Make_L1 k a97_ m b99_ c100_ = some out1) ?_ k ⟨_, _, rfl, h103⟩
    rintro m st ⟨b99_, c100_, rfl, h103⟩
    cases m with
    | zero => exact (onone h103).elim
    | succ m =>
      refine Wc.seq ?_
      refine Wc.seq ?_
      refine Wc.region [] [] [0, 2, 3, 4, 10] [2, 3] [] ⟨[(0, (.v (.sl (List.map GTerm.c a97_)), [])), (2, (.ptr 2 0, [])), (3, (.ptr 3 0, [])), (4, (.v (.int .i64 b99_), [])), (10, (.v (.bool (decide (b99_ ≥ 0))), []))], [(2, .cells [.int .i64 0, .str (bs []), .int .i64 0, .sl (List.map GTerm.c [])] [(3, .app 40)]), (3, .cells [.int .i64 c100_.gKind, .str c100_.gName, .int .i64 c100_.gNum, .sl (List.map GTerm.c c100_.gKids)] [(3, .app 40)])], []⟩ _ (by kernel_rfl) .nil ?_
      rcases oif h103 with ⟨h104, h103⟩ | ⟨h104, h103⟩
      · refine Wc.condT h104 (by kernel_rfl) ?_
        refine Wc.fix (st' := ⟨[(0, (.v (.sl (List.map GTerm.c a97_)), [])), (2, (.ptr 2 0, [])), (3, (.ptr 3 0, [])), (4, (.v (.int .i64 b99_), []))], [(2, .cells [.int .i64 0, .str (bs []), .int .i64 0, .sl (List.map GTerm.c [])] [(3, .app 40)]), (3, .cells [.int .i64 c100_.gKind, .str c100_.gName, .int .i64 c100_.gNum, .sl (List.map GTerm.c c100_.gKids)] [(3, .app 40)])], []⟩) [] [0, 2, 3, 4] [2, 3] [] (by kernel_rfl) ?_
        refine Wc.skip ?_
        refine Wc.seq ?_
        refine Wc.block ?_
        obtain ⟨c102_, h105, h103⟩ := obind h103
        obtain ⟨c103_, h106, h103⟩ := obind h103
        refine Wc.draw hmix [{}, {}, { v := some (.vptr [.int .i64 c102_.gKind, .str c102_.gName, .int .i64 c102_.gNum, .sl (List.map GTerm.c c102_.gKids)]) }, {}, {}, { r := some (.v (.agg [.int .i64 c103_.gKind, .str c103_.gName, .int .i64 c103_.gNum, .sl (List.map GTerm.c c103_.gKids)]) [(3, .app 40)]) }, { tk := [18] }] [] [0, 2, 3, 4] [2, 3] [] ⟨[(0, (.v (.sl (List.map GTerm.c a97_)), [])), (2, (.ptr 2 0, [])), (3, (.ptr 3 0, [])), (4, (.v (.int .i64 b99_), []))], [(2, .cells [.int .i64 0, .str (bs []), .int .i64 0, .sl (List.map GTerm.c [])] [(3, .app 40)]), (3, .cells [.int .i64 c103_.gKind, .str c103_.gName, .int .i64 c103_.gNum, .sl (List.map GTerm.c c103_.gKids)] [(3, .app 40)])], []⟩ _ (by kernel_rfl) (fun X => by kernel_rfl) (.cons (at_obl (c := GTerm.c) (GTerm.c_eq c102_) GTerm.c_len h105) (.cons (len_ok 4 [.int .i64 c102_.gKind, .str c102_.gName, .int .i64 c102_.gNum, .sl (List.map GTerm.c c102_.gKids)]) (.cons (cspec_l03Two h106) .nil))) ?_
        refine Wc.region [] [] [0, 2, 3, 4] [2, 3] [] ⟨[(0, (.v (.sl (List.map GTerm.c a97_)), [])), (2, (.ptr 2 0, [])), (3, (.ptr 3 0, [])), (4, (.v (.int .i64 (wr.i64 (b99_ - 1))), []))], [(2, .cells [.int .i64 0, .str (bs []), .int .i64 0, .sl (List.map GTerm.c [])] [(3, .app 40)]), (3, .cells [.int .i64 c103_.gKind, .str c103_.gName, .int .i64 c103_.gNum, .sl (List.map GTerm.c c103_.gKids)] [(3, .app 40)])], []⟩ _ (by kernel_rfl) .nil ?_
        exact ⟨_, Nat.lt_succ_self _, _, _, rfl, h103⟩
      · refine Wc.condF h104 (by kernel_rfl) ?_
        refine Wc.fix (st' := ⟨[(2, (.ptr 2 0, [])), (3, (.ptr 3 0, []))], [(2, .cells [.int .i64 0, .str (bs []), .int .i64 0, .sl (List.map GTerm.c [])] [(3, .app 40)]), (3, .cells [.int .i64 c100_.gKind, .str c100_.gName, .int .i64 c100_.gNum, .sl (List.map GTerm.c c100_.gKids)] [(3, .app 40)])], []⟩) [] [2, 3] [2, 3] [] (by kernel_rfl) ?_
        refine Wc.exit ?_
        obtain rfl := Option.some.inj h103
        exact ⟨_, rfl, rfl⟩
  · rintro st ⟨c101_, rfl, rfl⟩
    refine Wc.seq ?_
    refine Wc.region [{ md := 1 }, { tk := [19] }] [] [2] [2] [] ⟨[(2, (.ptr 2 0, []))], [(2, .cells [.int .i64 c101_.gKind, .str c101_.gName, .int .i64 c101_.gNum, .sl (List.map GTerm.c c101_.gKids)] [(3, .app 40)])], []⟩ _ (by kernel_rfl) .nil ?_
    refine Wc.ret ?_
    obtain rfl := Option.some.inj h
    exact ⟨.inl rfl, by kernel_rfl, by kernel_rfl⟩

/-- spec.l21ListTermRaw -/
def pspec_l21ListTermRaw (k : Nat) (a109_ : List GTerm) : Option GTerm :=
  if (decide ((a109_.length : Int) > 400)) = true then
    (pspec_l03Atom k (bs [91, 93])).bind fun c110_ =>
    some c110_
  else
    (pspec_l21Make k a109_).bind fun c111_ =>
    (pspec_TermOk k c111_).bind fun d112_ =>
    if (!d112_) = true then
      (pspec_l03Atom k (bs [91, 93])).bind fun c113_ =>
      some c113_
    else
      some c111_
theorem cspec_l21ListTermRaw {k : Nat} {a109_ : List GTerm} {r : GTerm} (h : pspec_l21ListTermRaw k a109_ = some r) : FnO Try.prog 81 [.v (.sl (List.map GTerm.c a109_)) []] (.v (.agg [.int .i64 r.gKind, .str r.gName, .int .i64 r.gNum, .sl (List.map GTerm.c r.gKids)]) [(3, .app 40)]) [] := by
  refine FnO.of Try.func81 (rfl : Try.f81.body = some _) (Nat.le_of_ble_eq_true (by kernel_rfl)) (Nat.le_of_ble_eq_true (by kernel_rfl)) ?_
  intro w0 X0 Fin pv0 pb
  unfold pspec_l21ListTermRaw at h
  refine Wc.seq ?_
  refine Wc.region [] [] [0, 2] [2] [] ⟨[(0, (.v (.sl (List.map GTerm.c a109_)), [])), (2, (.ptr 2 0, []))], [(2, .cells [.int .i64 0, .str (bs []), .int .i64 0, .sl (List.map GTerm.c [])] [(3, .app 40)])], []⟩ _ (by kernel_rfl) .nil ?_
  refine Wc.seq ?_
  refine Wc.seq ?_
  refine Wc.region [{}, { v := some (.int .i64 (a109_.length : Int)) }] [] [0, 2, 6] [2] [] ⟨[(0, (.v (.sl (List.map GTerm.c a109_)), [])), (2, (.ptr 2 0, [])), (6, (.v (.bool (decide ((a109_.length : Int) > 400))), []))], [(2, .cells [.int .i64 0, .str (bs []), .int .i64 0, .sl (List.map GTerm.c [])] [(3, .app 40)])], []⟩ _ (by kernel_rfl) (.cons (len_obl GTerm.c a109_) .nil) ?_
  rcases oif h with ⟨h113, h⟩ | ⟨h113, h⟩
  · refine Wc.condT h113 (by kernel_rfl) ?_
    refine Wc.seq ?_
    obtain ⟨c110_, h114, h⟩ := obind h
    refine Wc.region [{ r := some (.v (.agg [.int .i64 c110_.gKind, .str c110_.gName, .int .i64 c110_.gNum, .sl (List.map GTerm.c c110_.gKids)]) [(3, .app 40)]) }, { tk := [7] }] [] [2] [2] [] ⟨[(2, (.ptr 2 0, []))], [(2, .cells [.int .i64 c110_.gKind, .str c110_.gName, .int .i64 c110_.gNum, .sl (List.map GTerm.c c110_.gKids)] [(3, .app 40)])], []⟩ _ (by kernel_rfl) (.cons (cspec_l03Atom h114) .nil) ?_
    refine Wc.ret ?_
    obtain rfl := Option.some.inj h
    exact ⟨.inl rfl, by kernel_rfl, by kernel_rfl⟩
  · refine Wc.condF h113 (by kernel_rfl) ?_
    refine Wc.fix (st' := ⟨[(0, (.v (.sl (List.map GTerm.c a109_)), [])), (2, (.ptr 2 0, []))], [(2, .cells [.int .i64 0, .str (bs []), .int .i64 0, .sl (List.map GTerm.c [])] [(3, .app 40)])], []⟩) [] [0, 2] [2] [] (by kernel_rfl) ?_
    refine Wc.skip ?_
    refine Wc.seq ?_
    obtain ⟨c111_, h115, h⟩ := obind h
    refine Wc.region [{}, { r := some (.v (.agg [.int .i64 c111_.gKind, .str c111_.gName, .int .i64 c111_.gNum, .sl (List.map GTerm.c c111_.gKids)]) [(3, .app 40)]) }, {}, { tk := [9] }] [] [2, 3] [2, 3] [] ⟨[(2, (.ptr 2 0, [])), (3, (.ptr 3 0, []))], [(2, .cells [.int .i64 0, .str (bs []), .int .i64 0, .sl (List.map GTerm.c [])] [(3, .app 40)]), (3, .cells [.int .i64 c111_.gKind, .str c111_.gName, .int .i64 c111_.gNum, .sl (List.map GTerm.c c111_.gKids)] [(3, .app 40)])], []⟩ _ (by kernel_rfl) (.cons (cspec_l21Make h115) .nil) ?_
    refine Wc.seq ?_
    refine Wc.seq ?_
    obtain ⟨d112_, h116, h⟩ := obind h
    refine Wc.region [{}, { r := some (.v (.bool d112_) []) }] [] [2, 3, 12] [2, 3] [] ⟨[(2, (.ptr 2 0, [])), (3, (.ptr 3 0, [])), (12, (.v (.bool (!d112_)), []))], [(2, .cells [.int .i64 0, .str (bs []), .int .i64 0, .sl (List.map GTerm.c [])] [(3, .app 40)]), (3, .cells [.int .i64 c111_.gKind, .str c111_.gName, .int .i64 c111_.gNum, .sl (List.map GTerm.c c111_.gKids)] [(3, .app 40)])], []⟩ _ (by kernel_rfl) (.cons (cspec_TermOk h116) .nil) ?_
    rcases oif h with ⟨h117, h⟩ | ⟨h117, h⟩
    · refine Wc.condT h117 (by kernel_rfl) ?_
      refine Wc.seq ?_
      obtain ⟨c113_, h118, h⟩ := obind h
      refine Wc.region [{ r := some (.v (.agg [.int .i64 c113_.gKind, .str c113_.gName, .int .i64 c113_.gNum, .sl (List.map GTerm.c c113_.gKids)]) [(3, .app 40)]) }, { tk := [13] }] [] [2] [2] [] ⟨[(2, (.ptr 2 0, []))], [(2, .cells [.int .i64 c113_.gKind, .str c113_.gName, .int .i64 c113_.gNum, .sl (List.map GTerm.c c113_.gKids)] [(3, .app 40)])], []⟩ _ (by kernel_rfl) (.cons (cspec_l03Atom h118) .nil) ?_
      refine Wc.ret ?_
      obtain rfl := Option.some.inj h
      exact ⟨.inl rfl, by kernel_rfl, by kernel_rfl⟩
    · refine Wc.condF h117 (by kernel_rfl) ?_
      refine Wc.fix (st' := ⟨[(2, (.ptr 2 0, [])), (3, (.ptr 3 0, []))], [(2, .cells [.int .i64 0, .str (bs []), .int .i64 0, .sl (List.map GTerm.c [])] [(3, .app 40)]), (3, .cells [.int .i64 c111_.gKind, .str c111_.gName, .int .i64 c111_.gNum, .sl (List.map GTerm.c c111_.gKids)] [(3, .app 40)])], []⟩) [] [2, 3] [2, 3] [] (by kernel_rfl) ?_
      refine Wc.skip ?_
      refine Wc.seq ?_
      refine Wc.region [{ md := 1 }, { tk := [14] }] [] [2] [2] [] ⟨[(2, (.ptr 2 0, []))], [(2, .cells [.int .i64 c111_.gKind, .str c111_.gName, .int .i64 c111_.gNum, .sl (List.map GTerm.c c111_.gKids)] [(3, .app 40)])], []⟩ _ (by kernel_rfl) .nil ?_
      refine Wc.ret ?_
      obtain rfl := Option.some.inj h
      exact ⟨.inl rfl, by kernel_rfl, by kernel_rfl⟩

def pspec_l34Terms_L1 (k : Nat) (rspec_l34Term : GTerm → Option GTerm) (rspec_l34Terms : (List GTerm) → Option (List GTerm)) (a132_ : List GTerm) : Nat → (List GTerm) → Int → Option (Out (List GTerm) (List GTerm))
  | 0, _, _ => none
  | m + 1, a133_, b134_ =>
    if (decide (b134_ < (a132_.length : Int))) = true then
      (at' a132_ b134_).bind fun c136_ =>
      (rspec_l34Term c136_).bind fun c137_ =>
      if a133_.length + [c137_].length ≤ 1073741824 then
        pspec_l34Terms_L1 k rspec_l34Term rspec_l34Terms a132_ m (a133_ ++ [c137_]) (wr.i64 (b134_ + 1))
      else none
    else
      some (.done a133_)
mutual
/-- spec.l34Term -/
def pspec_l34Term : Nat → GTerm → Option GTerm
  | 0, _ => none
  | k + 1, c130_ =>
    (pspec_l34Terms k c130_.gKids).bind fun g131_ =>
    some (GTerm.mk c130_.gKind c130_.gName c130_.gNum g131_)
/-- spec.l34Terms -/
def pspec_l34Terms : Nat → (List GTerm) → Option (List GTerm)
  | 0, _ => none
  | k + 1, a132_ =>
    (pspec_l34Terms_L1 k (pspec_l34Term k) (pspec_l34Terms k) a132_ k [] 0).bind fun out1 => match out1 with
    | .ret r => some r
    | .done a135_ =>
      some a135_
end
theorem all_pspec_l34Term : ∀ k : Nat, (∀ {c130_ : GTerm} {r : GTerm}, pspec_l34Term k c130_ = some r → FnO Try.prog 82 [.v (.agg [.int .i64 c130_.gKind, .str c130_.gName, .int .i64 c130_.gNum, .sl (List.map GTerm.c c130_.gKids)]) []] (.v (.agg [.int .i64 r.gKind, .str r.gName, .int .i64 r.gNum, .sl (List.map GTerm.c r.gKids)]) [(3, .app 40)]) []) ∧
    (∀ {a132_ : List GTerm} {r : (List GTerm)}, pspec_l34Terms k a132_ = some r → FnO Try.prog 75 [.v (.sl (List.map GTerm.c a132_)) []] (.v (.sl (List.map GTerm.c r)) [(0, .app 40)]) []) := by
  intro k
  induction k with
  | zero =>
    refine ⟨?_, ?_⟩
    · intro c130_ r h
      exact (onone (by rw [pspec_l34Term] at h; exact h)).elim
    · intro a132_ r h
      exact (onone (by rw [pspec_l34Terms] at h; exact h)).elim
  | succ k ih =>
    obtain ⟨ih_pspec_l34Term, ih_pspec_l34Terms⟩ := ih
    refine ⟨?_, ?_⟩
    · intro c130_ r h
      rw [pspec_l34Term] at h
      refine FnO.of Try.func82 (rfl : Try.f82.body = some _) (Nat.le_of_ble_eq_true (by kernel_rfl)) (Nat.le_of_ble_eq_true (by kernel_rfl)) ?_
      intro w0 X0 Fin pv0 pb
      refine Wc.seq ?_
      refine Wc.region [] [] [1, 2] [1, 2] [] ⟨[(1, (.ptr 1 0, [])), (2, (.ptr 2 0, []))], [(1, .cells [.int .i64 c130_.gKind, .str c130_.gName, .int .i64 c130_.gNum, .sl (List.map GTerm.c c130_.gKids)] []), (2, .cells [.int .i64 0, .str (bs []), .int .i64 0, .sl (List.map GTerm.c [])] [(3, .app 40)])], []⟩ _ (by kernel_rfl) .nil ?_
      refine Wc.seq ?_
      obtain ⟨g131_, h131, h⟩ := obind h
      refine Wc.region [{}, {}, { r := some (.v (.sl (List.map GTerm.c g131_)) [(0, .app 40)]) }, {}, { tk := [5] }] [] [1, 2] [1, 2] [] ⟨[(1, (.ptr 1 0, [])), (2, (.ptr 2 0, []))], [(1, .cells [.int .i64 c130_.gKind, .str c130_.gName, .int .i64 c130_.gNum, .sl (List.map GTerm.c g131_)] [(3, .app 40)]), (2, .cells [.int .i64 0, .str (bs []), .int .i64 0, .sl (List.map GTerm.c [])] [(3, .app 40)])], []⟩ _ (by kernel_rfl) (.cons (ih_pspec_l34Terms h131) .nil) ?_
      refine Wc.seq ?_
      refine Wc.region [{ md := 1 }, { tk := [7] }] [] [2] [2] [] ⟨[(2, (.ptr 2 0, []))], [(2, .cells [.int .i64 c130_.gKind, .str c130_.gName, .int .i64 c130_.gNum, .sl (List.map GTerm.c g131_)] [(3, .app 40)])], []⟩ _ (by kernel_rfl) .nil ?_
      refine Wc.ret ?_
      obtain rfl := Option.some.inj h
      exact ⟨.inl rfl, by kernel_rfl, by kernel_rfl⟩
    · intro a132_ r h
      rw [pspec_l34Terms] at h
      refine FnO.of Try.func75 (rfl : Try.f75.body = some _) (Nat.le_of_ble_eq_true (by kernel_rfl)) (Nat.le_of_ble_eq_true (by kernel_rfl)) ?_
      intro w0 X0 Fin pv0 pb
      refine Wc.seq ?_
      refine Wc.region [] [] [0] [] [] ⟨[(0, (.v (.sl (List.map GTerm.c a132_)), []))], [], []⟩ _ (by kernel_rfl) .nil ?_
      refine Wc.seq ?_
      refine Wc.region [{ c := some (List.map GTerm.c []) }, { tk := [5] }] [] [0, 3] [] [] ⟨[(0, (.v (.sl (List.map GTerm.c a132_)), [])), (3, (.v (.sl (List.map GTerm.c [])), [(0, .app 40)]))], [], []⟩ _ (by kernel_rfl) (.cons (cl_nil GTerm.c) .nil) ?_
      refine Wc.seq ?_
      refine Wc.seq ?_
      refine Wc.region [] [] [0, 3, 4] [] [] ⟨[(0, (.v (.sl (List.map GTerm.c a132_)), [])), (3, (.v (.sl (List.map GTerm.c [])), [(0, .app 40)])), (4, (.v (.int .i64 0), []))], [], []⟩ _ (by kernel_rfl) .nil ?_
      obtain ⟨out1, h132, h⟩ := obind h
      refine Wc.lastJ (fun st => ∃ (a135_ : List GTerm), out1 = .done a135_ ∧ st = ⟨[(3, (.v (.sl (List.map GTerm.c a135_)), [(0, .app 40)]))], [], []⟩) ?_ ?_
      · refine Wc.block ?_
        refine Wc.loop (fun m st => ∃ (a133_ : List GTerm) (b134_ : Int), st = ⟨[(0, (.v (.sl (List.map GTerm.c a132_)), [])), (3, (.v (.sl (List.map GTerm.c a133_)), [(0, .app 40)])), (4, (.v (.int .i64 b134_), []))], [], []⟩ ∧ pspec_l34Terms_L1 k (pspec_l34Term k) (pspec_l34Terms k) a132_ m a133_ b134_ = some out1) ?_ k ⟨_, _, rfl, h132⟩
        rintro m st ⟨a133_, b134_, rfl, h132⟩
        cases m with
        | zero => exact (onone h132).elim
        | succ m =>
          refine Wc.seq ?_
          refine Wc.seq ?_
          refine Wc.region [{}, {}, { v := some (.int .i64 (a132_.length : Int)) }] [] [0, 3, 4, 9] [] [] ⟨[(0, (.v (.sl (List.map GTerm.c a132_)), [])), (3, (.v (.sl (List.map GTerm.c a133_)), [(0, .app 40)])), (4, (.v (.int .i64 b134_), [])), (9, (.v (.bool (decide (b134_ < (a132_.length : Int)))), []))], [], []⟩ _ (by kernel_rfl) (.cons (len_obl GTerm.c a132_) .nil) ?_
          rcases oif h132 with ⟨h133, h132⟩ | ⟨h133, h132⟩
          · refine Wc.condT h133 (by kernel_rfl) ?_
            refine Wc.fix (st' := ⟨[(0, (.v (.sl (List.map GTerm.c a132_)), [])), (3, (.v (.sl (List.map GTerm.c a133_)), [(0, .app 40)])), (4, (.v (.int .i64 b134_), []))], [], []⟩) [] [0, 3, 4] [] [] (by kernel_rfl) ?_
            refine Wc.skip ?_
            refine Wc.seq ?_
            refine Wc.block ?_
            obtain ⟨c136_, h134, h132⟩ := obind h132
            obtain ⟨c137_, h135, h132⟩ := obind h132
            obtain ⟨h136, h132⟩ := oguard h132
            refine Wc.region [{ tk := [3] }, {}, {}, { v := some (.vptr [.int .i64 c136_.gKind, .str c136_.gName, .int .i64 c136_.gNum, .sl (List.map GTerm.c c136_.gKids)]) }, {}, { r := some (.v (.agg [.int .i64 c137_.gKind, .str c137_.gName, .int .i64 c137_.gNum, .sl (List.map GTerm.c c137_.gKids)]) [(3, .app 40)]) }, { c := some (List.map GTerm.c [c137_]) }, { c := some (List.map GTerm.c (a133_ ++ [c137_])), tk := [12] }, { tk := [19] }] [] [0, 3, 4] [] [] ⟨[(0, (.v (.sl (List.map GTerm.c a132_)), [])), (3, (.v (.sl (List.map GTerm.c (a133_ ++ [c137_]))), [(0, .app 40)])), (4, (.v (.int .i64 b134_), []))], [], []⟩ _ (by kernel_rfl) (.cons (at_obl (c := GTerm.c) (GTerm.c_eq c136_) GTerm.c_len h134) (.cons (len_ok 4 [.int .i64 c136_.gKind, .str c136_.gName, .int .i64 c136_.gNum, .sl (List.map GTerm.c c136_.gKids)]) (.cons (ih_pspec_l34Term h135) (.cons (cl_cons (c := GTerm.c) (x := c137_) (GTerm.c_eq c137_) (cl_nil GTerm.c)) (.cons (app_re2 GTerm.c a133_ [c137_]) (.cons (app_leaf (c := GTerm.c) (ys := [c137_]) GTerm.c_leaf) (.cons (app_obl2 (c := GTerm.c) (xs := a133_) (ys := [c137_]) GTerm.c_len h136) .nil))))))) ?_
            refine Wc.region [] [] [0, 3, 4] [] [] ⟨[(0, (.v (.sl (List.map GTerm.c a132_)), [])), (3, (.v (.sl (List.map GTerm.c (a133_ ++ [c137_]))), [(0, .app 40)])), (4, (.v (.int .i64 (wr.i64 (b134_ + 1))), []))], [], []⟩ _ (by kernel_rfl) .nil ?_
            exact ⟨_, Nat.lt_succ_self _, _, _, rfl, h132⟩
          · refine Wc.condF h133 (by kernel_rfl) ?_
            refine Wc.fix (st' := ⟨[(3, (.v (.sl (List.map GTerm.c a133_)), [(0, .app 40)]))], [], []⟩) [] [3] [] [] (by kernel_rfl) ?_
            refine Wc.exit ?_
            obtain rfl := Option.some.inj h132
            exact ⟨_, rfl, rfl⟩
      · rintro st ⟨a135_, rfl, rfl⟩
        refine Wc.seq ?_
        refine Wc.region [{ tk := [3] }, { tk := [20] }] [] [2] [] [] ⟨[(2, (.v (.sl (List.map GTerm.c a135_)), [(0, .app 40)]))], [], []⟩ _ (by kernel_rfl) .nil ?_
        refine Wc.ret ?_
        obtain rfl := Option.some.inj h
        exact ⟨.inl rfl, by kernel_rfl, by kernel_rfl⟩
theorem cspec_l34Term {k : Nat} {c130_ : GTerm} {r : GTerm} (h : pspec_l34Term k c130_ = some r) : FnO Try.prog 82 [.v (.agg [.int .i64 c130_.gKind, .str c130_.gName, .int .i64 c130_.gNum, .sl (List.map GTerm.c c130_.gKids)]) []] (.v (.agg [.int .i64 r.gKind, .str r.gName, .int .i64 r.gNum, .sl (List.map GTerm.c r.gKids)]) [(3, .app 40)]) [] := (all_pspec_l34Term k).1 h
theorem cspec_l34Terms {k : Nat} {a132_ : List GTerm} {r : (List GTerm)} (h : pspec_l34Terms k a132_ = some r) : FnO Try.prog 75 [.v (.sl (List.map GTerm.c a132_)) []] (.v (.sl (List.map GTerm.c r)) [(0, .app 40)]) [] := (all_pspec_l34Term k).2 h

/-- spec.ListTerm -/
def pspec_ListTerm (k : Nat) (a141_ : List GTerm) : Option GTerm :=
  (pspec_l21ListTermRaw k a141_).bind fun c142_ =>
  (pspec_l34Term k c142_).bind fun c143_ =>
  some c143_
theorem cspec_ListTerm {k : Nat} {a141_ : List GTerm} {r : GTerm} (h : pspec_ListTerm k a141_ = some r) : FnO Try.prog 41 [.v (.sl (List.map GTerm.c a141_)) []] (.v (.agg [.int .i64 r.gKind, .str r.gName, .int .i64 r.gNum, .sl (List.map GTerm.c r.gKids)]) [(3, .app 40)]) [] := by
  refine FnO.of Try.func41 (rfl : Try.f41.body = some _) (Nat.le_of_ble_eq_true (by kernel_rfl)) (Nat.le_of_ble_eq_true (by kernel_rfl)) ?_
  intro w0 X0 Fin pv0 pb
  unfold pspec_ListTerm at h
  refine Wc.seq ?_
  refine Wc.region [] [] [0, 2] [2] [] ⟨[(0, (.v (.sl (List.map GTerm.c a141_)), [])), (2, (.ptr 2 0, []))], [(2, .cells [.int .i64 0, .str (bs []), .int .i64 0, .sl (List.map GTerm.c [])] [(3, .app 40)])], []⟩ _ (by kernel_rfl) .nil ?_
  refine Wc.seq ?_
  obtain ⟨c142_, h139, h⟩ := obind h
  refine Wc.region [{}, { r := some (.v (.agg [.int .i64 c142_.gKind, .str c142_.gName, .int .i64 c142_.gNum, .sl (List.map GTerm.c c142_.gKids)]) [(3, .app 40)]) }, {}, { tk := [5] }] [] [2, 3] [2, 3] [] ⟨[(2, (.ptr 2 0, [])), (3, (.ptr 3 0, []))], [(2, .cells [.int .i64 0, .str (bs []), .int .i64 0, .sl (List.map GTerm.c [])] [(3, .app 40)]), (3, .cells [.int .i64 c142_.gKind, .str c142_.gName, .int .i64 c142_.gNum, .sl (List.map GTerm.c c142_.gKids)] [(3, .app 40)])], []⟩ _ (by kernel_rfl) (.cons (cspec_l21ListTermRaw h139) .nil) ?_
  refine Wc.seq ?_
  obtain ⟨c143_, h140, h⟩ := obind h
  refine Wc.region [{}, { r := some (.v (.agg [.int .i64 c143_.gKind, .str c143_.gName, .int .i64 c143_.gNum, .sl (List.map GTerm.c c143_.gKids)]) [(3, .app 40)]) }, { tk := [7] }] [] [2] [2] [] ⟨[(2, (.ptr 2 0, []))], [(2, .cells [.int .i64 c143_.gKind, .str c143_.gName, .int .i64 c143_.gNum, .sl (List.map GTerm.c c143_.gKids)] [(3, .app 40)])], []⟩ _ (by kernel_rfl) (.cons (cspec_l34Term h140) .nil) ?_
  refine Wc.ret ?_
  obtain rfl := Option.some.inj h
  exact ⟨.inl rfl, by kernel_rfl, by kernel_rfl⟩

def plaws_toTermS_L1 (k : Nat) (rlaws_toTerm : GTerm → Option GTerm) (rlaws_toTermS : (List GTerm) → Option (List GTerm)) (a146_ : List GTerm) : Nat → (List GTerm) → Int → Option (Out (List GTerm) (List GTerm))
  | 0, _, _ => none
  | m + 1, a147_, b148_ =>
    if (decide (b148_ < (a146_.length : Int))) = true then
      (at' a146_ b148_).bind fun c150_ =>
      (rlaws_toTerm c150_).bind fun c151_ =>
      (at' a147_ b148_).bind fun c152_ =>
      plaws_toTermS_L1 k rlaws_toTerm rlaws_toTermS a146_ m (a147_.set ((b148_).toNat) c151_) (wr.i64 (b148_ + 1))
    else
      some (.done a147_)
mutual
/-- laws.toTerm -/
def plaws_toTerm : Nat → GTerm → Option GTerm
  | 0, _ => none
  | k + 1, c144_ =>
    (plaws_toTermS k c144_.gKids).bind fun g145_ =>
    some (GTerm.mk c144_.gKind c144_.gName c144_.gNum g145_)
/-- laws.toTermS -/
def plaws_toTermS : Nat → (List GTerm) → Option (List GTerm)
  | 0, _ => none
  | k + 1, a146_ =>
    if 0 ≤ (a146_.length : Int) ∧ (a146_.length : Int) ≤ 1073741824 then
      (plaws_toTermS_L1 k (plaws_toTerm k) (plaws_toTermS k) a146_ k (List.replicate ((a146_.length : Int)).toNat (GTerm.mk 0 (bs []) 0 [])) 0).bind fun out1 => match out1 with
      | .ret r => some r
      | .done a149_ =>
        some a149_
    else none
end
theorem all_plaws_toTerm : ∀ k : Nat, (∀ {c144_ : GTerm} {r : GTerm}, plaws_toTerm k c144_ = some r → FnO Try.prog 35 [.v (.agg [.int .i64 c144_.gKind, .str c144_.gName, .int .i64 c144_.gNum, .sl (List.map GTerm.c c144_.gKids)]) []] (.v (.agg [.int .i64 r.gKind, .str r.gName, .int .i64 r.gNum, .sl (List.map GTerm.c r.gKids)]) []) []) ∧
    (∀ {a146_ : List GTerm} {r : (List GTerm)}, plaws_toTermS k a146_ = some r → FnO Try.prog 42 [.v (.sl (List.map GTerm.c a146_)) []] (.v (.sl (List.map GTerm.c r)) []) []) := by
  intro k
  induction k with
  | zero =>
    refine ⟨?_, ?_⟩
    · intro c144_ r h
      exact (onone (by rw [plaws_toTerm] at h; exact h)).elim
    · intro a146_ r h
      exact (onone (by rw [plaws_toTermS] at h; exact h)).elim
  | succ k ih =>
    obtain ⟨ih_plaws_toTerm, ih_plaws_toTermS⟩ := ih
    refine ⟨?_, ?_⟩
    · intro c144_ r h
      rw [plaws_toTerm] at h
      refine FnO.of Try.func35 (rfl : Try.f35.body = some _) (Nat.le_of_ble_eq_true (by kernel_rfl)) (Nat.le_of_ble_eq_true (by kernel_rfl)) ?_
      intro w0 X0 Fin pv0 pb
      refine Wc.seq ?_
      refine Wc.region [] [] [1, 2] [1, 2] [] ⟨[(1, (.ptr 1 0, [])), (2, (.ptr 2 0, []))], [(1, .cells [.int .i64 c144_.gKind, .str c144_.gName, .int .i64 c144_.gNum, .sl (List.map GTerm.c c144_.gKids)] []), (2, .cells [.int .i64 0, .str (bs []), .int .i64 0, .sl (List.map GTerm.c [])] [(3, .app 40)])], []⟩ _ (by kernel_rfl) .nil ?_
      refine Wc.seq ?_
      refine Wc.region [] [] [1, 2, 3] [1, 2, 3] [] ⟨[(1, (.ptr 1 0, [])), (2, (.ptr 2 0, [])), (3, (.ptr 3 0, []))], [(1, .cells [.int .i64 c144_.gKind, .str c144_.gName, .int .i64 c144_.gNum, .sl (List.map GTerm.c c144_.gKids)] []), (2, .cells [.int .i64 0, .str (bs []), .int .i64 0, .sl (List.map GTerm.c [])] [(3, .app 40)]), (3, .cells [.int .i64 0, .str (bs []), .int .i64 0, .sl (List.map GTerm.c [])] [(3, .app 40)])], []⟩ _ (by kernel_rfl) .nil ?_
      refine Wc.seq ?_
      refine Wc.region [] [] [1, 2, 3] [1, 2, 3] [] ⟨[(1, (.ptr 1 0, [])), (2, (.ptr 2 0, [])), (3, (.ptr 3 0, []))], [(1, .cells [.int .i64 c144_.gKind, .str c144_.gName, .int .i64 c144_.gNum, .sl (List.map GTerm.c c144_.gKids)] []), (2, .cells [.int .i64 0, .str (bs []), .int .i64 0, .sl (List.map GTerm.c [])] [(3, .app 40)]), (3, .cells [.int .i64 c144_.gKind, .str (bs []), .int .i64 0, .sl (List.map GTerm.c [])] [(3, .app 40)])], []⟩ _ (by kernel_rfl) .nil ?_
      refine Wc.seq ?_
      refine Wc.region [] [] [1, 2, 3] [1, 2, 3] [] ⟨[(1, (.ptr 1 0, [])), (2, (.ptr 2 0, [])), (3, (.ptr 3 0, []))], [(1, .cells [.int .i64 c144_.gKind, .str c144_.gName, .int .i64 c144_.gNum, .sl (List.map GTerm.c c144_.gKids)] []), (2, .cells [.int .i64 0, .str (bs []), .int .i64 0, .sl (List.map GTerm.c [])] [(3, .app 40)]), (3, .cells [.int .i64 c144_.gKind, .str c144_.gName, .int .i64 0, .sl (List.map GTerm.c [])] [(3, .app 40)])], []⟩ _ (by kernel_rfl) .nil ?_
      refine Wc.seq ?_
      refine Wc.region [] [] [1, 2, 3] [1, 2, 3] [] ⟨[(1, (.ptr 1 0, [])), (2, (.ptr 2 0, [])), (3, (.ptr 3 0, []))], [(1, .cells [.int .i64 c144_.gKind, .str c144_.gName, .int .i64 c144_.gNum, .sl (List.map GTerm.c c144_.gKids)] []), (2, .cells [.int .i64 0, .str (bs []), .int .i64 0, .sl (List.map GTerm.c [])] [(3, .app 40)]), (3, .cells [.int .i64 c144_.gKind, .str c144_.gName, .int .i64 c144_.gNum, .sl (List.map GTerm.c [])] [(3, .app 40)])], []⟩ _ (by kernel_rfl) .nil ?_
      refine Wc.seq ?_
      obtain ⟨g145_, h141, h⟩ := obind h
      refine Wc.region [{}, {}, { r := some (.v (.sl (List.map GTerm.c g145_)) []) }] [] [2, 3] [2, 3] [] ⟨[(2, (.ptr 2 0, [])), (3, (.ptr 3 0, []))], [(2, .cells [.int .i64 0, .str (bs []), .int .i64 0, .sl (List.map GTerm.c [])] [(3, .app 40)]), (3, .cells [.int .i64 c144_.gKind, .str c144_.gName, .int .i64 c144_.gNum, .sl (List.map GTerm.c g145_)] [])], []⟩ _ (by kernel_rfl) (.cons (ih_plaws_toTermS h141) .nil) ?_
      refine Wc.seq ?_
      refine Wc.region [] [] [2] [2] [] ⟨[(2, (.ptr 2 0, []))], [(2, .cells [.int .i64 c144_.gKind, .str c144_.gName, .int .i64 c144_.gNum, .sl (List.map GTerm.c g145_)] [])], []⟩ _ (by kernel_rfl) .nil ?_
      refine Wc.ret ?_
      obtain rfl := Option.some.inj h
      exact ⟨.inl rfl, by kernel_rfl, by kernel_rfl⟩
    · intro a146_ r h
      rw [plaws_toTermS] at h
      refine FnO.of Try.func42 (rfl : Try.f42.body = some _) (Nat.le_of_ble_eq_true (by kernel_rfl)) (Nat.le_of_ble_eq_true (by kernel_rfl)) ?_
      intro w0 X0 Fin pv0 pb
      refine Wc.seq ?_
      refine Wc.region [] [] [0] [] [] ⟨[(0, (.v (.sl (List.map GTerm.c a146_)), []))], [], []⟩ _ (by kernel_rfl) .nil ?_
      refine Wc.seq ?_
      obtain ⟨h142, h⟩ := oguard h
      refine Wc.region [{}, { v := some (.int .i64 (a146_.length : Int)) }, { c := some (List.map GTerm.c (List.replicate ((a146_.length : Int)).toNat (GTerm.mk 0 (bs []) 0 []))) }, { tk := [7], fx := [.ag (.t 7 0)] }] [] [0, 3] [] [] ⟨[(0, (.v (.sl (List.map GTerm.c a146_)), [])), (3, (.v (.slx), [(0, .ex 40 false (List.map GTerm.c (List.replicate ((a146_.length : Int)).toNat (GTerm.mk 0 (bs []) 0 []))))]))], [], []⟩ _ (by kernel_rfl) (.cons (len_obl GTerm.c a146_) (.cons (rep_re (c := GTerm.c) (GTerm.c_eq (GTerm.mk 0 (bs []) 0 [])) ((a146_.length : Int)).toNat) (.cons (ms_obl h142) .nil))) ?_
      refine Wc.seq ?_
      refine Wc.seq ?_
      refine Wc.region [] [] [0, 3, 4] [] [] ⟨[(0, (.v (.sl (List.map GTerm.c a146_)), [])), (3, (.v (.slx), [(0, .ex 40 false (List.map GTerm.c (List.replicate ((a146_.length : Int)).toNat (GTerm.mk 0 (bs []) 0 []))))])), (4, (.v (.int .i64 0), []))], [], []⟩ _ (by kernel_rfl) .nil ?_
      obtain ⟨out1, h143, h⟩ := obind h
      refine Wc.lastJ (fun st => ∃ (a149_ : List GTerm), out1 = .done a149_ ∧ st = ⟨[(3, (.v (.slx), [(0, .ex 40 false (List.map GTerm.c a149_))]))], [], []⟩) ?_ ?_
      · refine Wc.block ?_
        refine Wc.loop (fun m st => ∃ (a147_ : List GTerm) (b148_ : Int), st = ⟨[(0, (.v (.sl (List.map GTerm.c a146_)), [])), (3, (.v (.slx), [(0, .ex 40 false (List.map GTerm.c a147_))])), (4, (.v (.int .i64 b148_), []))], [], []⟩ ∧ plaws_toTermS_L1 k (plaws_toTerm k) (plaws_toTermS k) a146_ m a147_ b148_ = some out1) ?_ k ⟨_, _, rfl, h143⟩
        rintro m st ⟨a147_, b148_, rfl, h143⟩
        cases m with
        | zero => exact (onone h143).elim
        | succ m =>
          refine Wc.seq ?_
          refine Wc.seq ?_
          refine Wc.region [{}, {}, { v := some (.int .i64 (a146_.length : Int)) }] [] [0, 3, 4, 11] [] [] ⟨[(0, (.v (.sl (List.map GTerm.c a146_)), [])), (3, (.v (.slx), [(0, .ex 40 false (List.map GTerm.c a147_))])), (4, (.v (.int .i64 b148_), [])), (11, (.v (.bool (decide (b148_ < (a146_.length : Int)))), []))], [], []⟩ _ (by kernel_rfl) (.cons (len_obl GTerm.c a146_) .nil) ?_
          rcases oif h143 with ⟨h144, h143⟩ | ⟨h144, h143⟩
          · refine Wc.condT h144 (by kernel_rfl) ?_
            refine Wc.fix (st' := ⟨[(0, (.v (.sl (List.map GTerm.c a146_)), [])), (3, (.v (.slx), [(0, .ex 40 false (List.map GTerm.c a147_))])), (4, (.v (.int .i64 b148_), []))], [], []⟩) [] [0, 3, 4] [] [] (by kernel_rfl) ?_
            refine Wc.skip ?_
            refine Wc.seq ?_
            refine Wc.block ?_
            obtain ⟨c150_, h145, h143⟩ := obind h143
            obtain ⟨c151_, h146, h143⟩ := obind h143
            obtain ⟨c152_, h147, h143⟩ := obind h143
            refine Wc.region [{}, {}, {}, {}, { v := some (.vptr [.int .i64 c150_.gKind, .str c150_.gName, .int .i64 c150_.gNum, .sl (List.map GTerm.c c150_.gKids)]) }, {}, { r := some (.v (.agg [.int .i64 c151_.gKind, .str c151_.gName, .int .i64 c151_.gNum, .sl (List.map GTerm.c c151_.gKids)]) []) }, {}, { c := some (List.map GTerm.c (a147_.set ((b148_).toNat) c151_)) }] [] [0, 3, 4] [] [] ⟨[(0, (.v (.sl (List.map GTerm.c a146_)), [])), (3, (.v (.slx), [(0, .ex 40 false (List.map GTerm.c (a147_.set ((b148_).toNat) c151_)))])), (4, (.v (.int .i64 b148_), []))], [], []⟩ _ (by kernel_rfl) (.cons (at_obl (c := GTerm.c) (GTerm.c_eq c150_) GTerm.c_len h145) (.cons (len_ok 4 [.int .i64 c150_.gKind, .str c150_.gName, .int .i64 c150_.gNum, .sl (List.map GTerm.c c150_.gKids)]) (.cons (ih_plaws_toTerm h146) (.cons (ix_obl (c := GTerm.c) GTerm.c_len h147) (.cons (mod_obl (off := 0) (new := [.int .i64 c151_.gKind, .str c151_.gName, .int .i64 c151_.gNum, .sl (List.map GTerm.c c151_.gKids)]) (c := GTerm.c) (GTerm.c_eq c152_) (GTerm.c_eq c151_) (at'_spec h147).2 rfl) (.cons (st_obl (sz := 4) (off := 0) (s := 4) (c := GTerm.c) (GTerm.c_eq c152_) (at'_spec h147).2 rfl (Nat.le_of_ble_eq_true rfl)) .nil)))))) ?_
            refine Wc.region [] [] [0, 3, 4] [] [] ⟨[(0, (.v (.sl (List.map GTerm.c a146_)), [])), (3, (.v (.slx), [(0, .ex 40 false (List.map GTerm.c (a147_.set ((b148_).toNat) c151_)))])), (4, (.v (.int .i64 (wr.i64 (b148_ + 1))), []))], [], []⟩ _ (by kernel_rfl) .nil ?_
            exact ⟨_, Nat.lt_succ_self _, _, _, rfl, h143⟩
          · refine Wc.condF h144 (by kernel_rfl) ?_
            refine Wc.fix (st' := ⟨[(3, (.v (.slx), [(0, .ex 40 false (List.map GTerm.c a147_))]))], [], []⟩) [] [3] [] [] (by kernel_rfl) ?_
            refine Wc.exit ?_
            obtain rfl := Option.some.inj h143
            exact ⟨_, rfl, rfl⟩
      · rintro st ⟨a149_, rfl, rfl⟩
        refine Wc.seq ?_
        refine Wc.region [{ tk := [3] }, { tk := [22] }] [] [2] [] [] ⟨[(2, (.v (.slx), [(0, .ex 40 false (List.map GTerm.c a149_))]))], [], []⟩ _ (by kernel_rfl) .nil ?_
        refine Wc.fix (st' := ⟨[(2, (.v (.sl (List.map GTerm.c a149_)), []))], [], []⟩) [.sh (.t 2 0)] [2] [] [] (by kernel_rfl) ?_
        refine Wc.ret ?_
        obtain rfl := Option.some.inj h
        exact ⟨.inl rfl, by kernel_rfl, by kernel_rfl⟩
theorem claws_toTerm {k : Nat} {c144_ : GTerm} {r : GTerm} (h : plaws_toTerm k c144_ = some r) : FnO Try.prog 35 [.v (.agg [.int .i64 c144_.gKind, .str c144_.gName, .int .i64 c144_.gNum, .sl (List.map GTerm.c c144_.gKids)]) []] (.v (.agg [.int .i64 r.gKind, .str r.gName, .int .i64 r.gNum, .sl (List.map GTerm.c r.gKids)]) []) [] := (all_plaws_toTerm k).1 h
theorem claws_toTermS {k : Nat} {a146_ : List GTerm} {r : (List GTerm)} (h : plaws_toTermS k a146_ = some r) : FnO Try.prog 42 [.v (.sl (List.map GTerm.c a146_)) []] (.v (.sl (List.map GTerm.c r)) []) [] := (all_plaws_toTerm k).2 h

/-- impl.atom -/
def pimpl_atom (k : Nat) (e154_ : ByteArray) : Option GTerm :=
  some (GTerm.mk 2 e154_ 0 [])
theorem cimpl_atom {k : Nat} {e154_ : ByteArray} {r : GTerm} (h : pimpl_atom k e154_ = some r) : FnO Try.prog 59 [.v (.str e154_) []] (.v (.agg [.int .i64 r.gKind, .str r.gName, .int .i64 r.gNum, .sl (List.map GTerm.c r.gKids)]) [(3, .app 40)]) [] := by
  refine FnO.of Try.func59 (rfl : Try.f59.body = some _) (Nat.le_of_ble_eq_true (by kernel_rfl)) (Nat.le_of_ble_eq_true (by kernel_rfl)) ?_
  intro w0 X0 Fin pv0 pb
  unfold pimpl_atom at h
  refine Wc.seq ?_
  refine Wc.region [] [] [0, 2] [2] [] ⟨[(0, (.v (.str e154_), [])), (2, (.ptr 2 0, []))], [(2, .cells [.int .i64 0, .str (bs []), .int .i64 0, .sl (List.map GTerm.c [])] [(3, .app 40)])], []⟩ _ (by kernel_rfl) .nil ?_
  refine Wc.seq ?_
  refine Wc.region [{}, {}, { tk := [4] }] [] [2] [2] [] ⟨[(2, (.ptr 2 0, []))], [(2, .cells [.int .i64 2, .str e154_, .int .i64 0, .sl (List.map GTerm.c [])] [(3, .app 40)])], []⟩ _ (by kernel_rfl) .nil ?_
  refine Wc.ret ?_
  obtain rfl := Option.some.inj h
  exact ⟨.inl rfl, by kernel_rfl, by kernel_rfl⟩

/-- impl.within -/
def pimpl_within (k : Nat) (b155_ : Int) (b156_ : Int) (b157_ : Int) : Option Bool :=
  if (decide (b155_ ≥ b156_)) = true then
    some (decide (b155_ ≤ b157_))
  else
    some false
theorem cimpl_within {k : Nat} {b155_ : Int} {b156_ : Int} {b157_ : Int} {r : Bool} (h : pimpl_within k b155_ b156_ b157_ = some r) : FnO Try.prog 50 [.v (.int .i64 b155_) [], .v (.int .i64 b156_) [], .v (.int .i64 b157_) []] (.v (.bool r) []) [] := by
  refine FnO.of Try.func50 (rfl : Try.f50.body = some _) (Nat.le_of_ble_eq_true (by kernel_rfl)) (Nat.le_of_ble_eq_true (by kernel_rfl)) ?_
  intro w0 X0 Fin pv0 pb
  unfold pimpl_within at h
  refine Wc.seq ?_
  refine Wc.region [] [] [0, 1, 2] [] [] ⟨[(0, (.v (.int .i64 b155_), [])), (1, (.v (.int .i64 b156_), [])), (2, (.v (.int .i64 b157_), []))], [], []⟩ _ (by kernel_rfl) .nil ?_
  refine Wc.seq ?_
  rcases oif h with ⟨h148, h⟩ | ⟨h148, h⟩
  · refine Wc.region [{}, {}, {}, { re := some (.bool true) }] [] [6] [] [] ⟨[(6, (.v (.bool (decide (b155_ ≤ b157_))), []))], [], []⟩ _ (by kernel_rfl) (.cons (congrArg AV.bool h148) .nil) ?_
    refine Wc.ret ?_
    obtain rfl := Option.some.inj h
    exact ⟨.inl rfl, by kernel_rfl, by kernel_rfl⟩
  · refine Wc.region [{}, {}, {}, { re := some (.bool false) }] [] [6] [] [] ⟨[(6, (.v (.bool false), []))], [], []⟩ _ (by kernel_rfl) (.cons (congrArg AV.bool h148) .nil) ?_
    refine Wc.ret ?_
    obtain rfl := Option.some.inj h
    exact ⟨.inl rfl, by kernel_rfl, by kernel_rfl⟩

def pimpl_nameOk_L1 (k : Nat) (e158_ : ByteArray) : Nat → Int → Option (Out Bool Unit)
  | 0, _ => none
  | m + 1, b159_ =>
    if (decide (b159_ < (e158_.size : Int))) = true then
      if 0 ≤ b159_ ∧ (b159_).toNat < e158_.size then
        (pimpl_within k (wr.i64 (bt e158_ b159_)) 33 126).bind fun d160_ =>
        if (!d160_) = true then
          some (.ret false)
        else
          if 0 ≤ b159_ ∧ (b159_).toNat < e158_.size then
            if ((bt e158_ b159_) == 39) = true then
              some (.ret false)
            else
              if 0 ≤ b159_ ∧ (b159_).toNat < e158_.size then
                if ((bt e158_ b159_) == 34) = true then
                  some (.ret false)
                else
                  pimpl_nameOk_L1 k e158_ m (wr.i64 (b159_ + 1))
              else none
          else none
      else none
    else
      some (.done ())
/-- impl.nameOk -/
def pimpl_nameOk (k : Nat) (e158_ : ByteArray) : Option Bool :=
  (pimpl_nameOk_L1 k e158_ k 0).bind fun out1 => match out1 with
  | .ret r => some r
  | .done () =>
    (pimpl_within k (e158_.size : Int) 1 20).bind fun d161_ =>
    some d161_
theorem cimpl_nameOk {k : Nat} {e158_ : ByteArray} {r : Bool} (h : pimpl_nameOk k e158_ = some r) : FnO Try.prog 114 [.v (.str e158_) []] (.v (.bool r) []) [] := by
  refine FnO.of Try.func114 (rfl : Try.f114.body = some _) (Nat.le_of_ble_eq_true (by kernel_rfl)) (Nat.le_of_ble_eq_true (by kernel_rfl)) ?_
  intro w0 X0 Fin pv0 pb
  unfold pimpl_nameOk at h
  refine Wc.seq ?_
  refine Wc.region [] [] [0] [] [] ⟨[(0, (.v (.str e158_), []))], [], []⟩ _ (by kernel_rfl) .nil ?_
  refine Wc.seq ?_
  refine Wc.seq ?_
  refine Wc.region [] [] [0, 3] [] [] ⟨[(0, (.v (.str e158_), [])), (3, (.v (.int .i64 0), []))], [], []⟩ _ (by kernel_rfl) .nil ?_
  obtain ⟨out1, h149, h⟩ := obind h
  refine Wc.lastJ (fun st => out1 = .done () ∧ st = ⟨[(0, (.v (.str e158_), []))], [], []⟩) ?_ ?_
  · refine Wc.block ?_
    refine Wc.loop (fun m st => ∃ (b159_ : Int), st = ⟨[(0, (.v (.str e158_), [])), (3, (.v (.int .i64 b159_), []))], [], []⟩ ∧ pimpl_nameOk_L1 k e158_ m b159_ = some out1) ?_ k ⟨_, rfl, h149⟩
    rintro m st ⟨b159_, rfl, h149⟩
    cases m with
    | zero => exact (onone h149).elim
    | succ m =>
      refine Wc.seq ?_
      refine Wc.seq ?_
      refine Wc.region [] [] [0, 3, 7] [] [] ⟨[(0, (.v (.str e158_), [])), (3, (.v (.int .i64 b159_), [])), (7, (.v (.bool (decide (b159_ < (e158_.size : Int)))), []))], [], []⟩ _ (by kernel_rfl) .nil ?_
      rcases oif h149 with ⟨h150, h149⟩ | ⟨h150, h149⟩
      · refine Wc.condT h150 (by kernel_rfl) ?_
        refine Wc.fix (st' := ⟨[(0, (.v (.str e158_), [])), (3, (.v (.int .i64 b159_), []))], [], []⟩) [] [0, 3] [] [] (by kernel_rfl) ?_
        refine Wc.skip ?_
        refine Wc.seq ?_
        refine Wc.block ?_
        refine Wc.seq ?_
        obtain ⟨h151, h149⟩ := oguard h149
        obtain ⟨d160_, h152, h149⟩ := obind h149
        rcases oif h149 with ⟨h153, h149⟩ | ⟨h153, h149⟩
        · refine Wc.region [{}, {}, {}, {}, { r := some (.v (.bool d160_) []) }, {}, { re := some (.bool true) }] [] [0, 3, 27] [] [] ⟨[(0, (.v (.str e158_), [])), (3, (.v (.int .i64 b159_), [])), (27, (.v (.bool true), []))], [], []⟩ _ (by kernel_rfl) (.cons h151 (.cons (cimpl_within h152) (.cons (congrArg AV.bool h153) .nil))) ?_
          refine Wc.condT rfl (by kernel_rfl) ?_
          refine Wc.seq ?_
          refine Wc.region [] [] [2] [] [] ⟨[(2, (.v (.bool false), []))], [], []⟩ _ (by kernel_rfl) .nil ?_
          refine Wc.ret ?_
          obtain rfl := Option.some.inj h149
          obtain rfl := Option.some.inj h
          exact ⟨.inl rfl, by kernel_rfl, by kernel_rfl⟩
        · obtain ⟨h154, h149⟩ := oguard h149
          rcases oif h149 with ⟨h155, h149⟩ | ⟨h155, h149⟩
          · refine Wc.region [{}, {}, {}, {}, { r := some (.v (.bool d160_) []) }, {}, { re := some (.bool false) }, {}, {}, {}, {}, {}, { re := some (.bool true) }] [] [0, 3, 27] [] [] ⟨[(0, (.v (.str e158_), [])), (3, (.v (.int .i64 b159_), [])), (27, (.v (.bool true), []))], [], []⟩ _ (by kernel_rfl) (.cons h151 (.cons (cimpl_within h152) (.cons (congrArg AV.bool h153) (.cons h154 (.cons (congrArg AV.bool h155) .nil))))) ?_
            refine Wc.condT rfl (by kernel_rfl) ?_
            refine Wc.seq ?_
            refine Wc.region [] [] [2] [] [] ⟨[(2, (.v (.bool false), []))], [], []⟩ _ (by kernel_rfl) .nil ?_
            refine Wc.ret ?_
            obtain rfl := Option.some.inj h149
            obtain rfl := Option.some.inj h
            exact ⟨.inl rfl, by kernel_rfl, by kernel_rfl⟩
          · obtain ⟨h156, h149⟩ := oguard h149
            refine Wc.region [{}, {}, {}, {}, { r := some (.v (.bool d160_) []) }, {}, { re := some (.bool false) }, {}, {}, {}, {}, {}, { re := some (.bool false) }] [] [0, 3, 27] [] [] ⟨[(0, (.v (.str e158_), [])), (3, (.v (.int .i64 b159_), [])), (27, (.v (.bool ((bt e158_ b159_) == 34)), []))], [], []⟩ _ (by kernel_rfl) (.cons h151 (.cons (cimpl_within h152) (.cons (congrArg AV.bool h153) (.cons h154 (.cons (congrArg AV.bool h155) (.cons h156 .nil)))))) ?_
            rcases oif h149 with ⟨h157, h149⟩ | ⟨h157, h149⟩
            · refine Wc.condT h157 (by kernel_rfl) ?_
              refine Wc.seq ?_
              refine Wc.region [] [] [2] [] [] ⟨[(2, (.v (.bool false), []))], [], []⟩ _ (by kernel_rfl) .nil ?_
              refine Wc.ret ?_
              obtain rfl := Option.some.inj h149
              obtain rfl := Option.some.inj h
              exact ⟨.inl rfl, by kernel_rfl, by kernel_rfl⟩
            · refine Wc.condF h157 (by kernel_rfl) ?_
              refine Wc.fix (st' := ⟨[(0, (.v (.str e158_), [])), (3, (.v (.int .i64 b159_), []))], [], []⟩) [] [0, 3] [] [] (by kernel_rfl) ?_
              refine Wc.skip ?_
              refine Wc.region [] [] [0, 3] [] [] ⟨[(0, (.v (.str e158_), [])), (3, (.v (.int .i64 (wr.i64 (b159_ + 1))), []))], [], []⟩ _ (by kernel_rfl) .nil ?_
              exact ⟨_, Nat.lt_succ_self _, _, rfl, h149⟩
      · refine Wc.condF h150 (by kernel_rfl) ?_
        refine Wc.fix (st' := ⟨[(0, (.v (.str e158_), []))], [], []⟩) [] [0] [] [] (by kernel_rfl) ?_
        refine Wc.exit ?_
        obtain rfl := Option.some.inj h149
        exact ⟨rfl, rfl⟩
  · rintro st ⟨rfl, rfl⟩
    refine Wc.seq ?_
    obtain ⟨d161_, h158, h⟩ := obind h
    refine Wc.region [{}, {}, { r := some (.v (.bool d161_) []) }] [] [2] [] [] ⟨[(2, (.v (.bool d161_), []))], [], []⟩ _ (by kernel_rfl) (.cons (cimpl_within h158) .nil) ?_
    refine Wc.ret ?_
    obtain rfl := Option.some.inj h
    exact ⟨.inl rfl, by kernel_rfl, by kernel_rfl⟩

def pimpl_sized_L2 (k : Nat) (rimpl_sized : GTerm → Int → Option Int) (c162_ : GTerm) (b163_ : Int) : Nat → Int → Int → Option (Out Int Int)
  | 0, _, _ => none
  | m + 1, b164_, b165_ =>
    if (decide (b165_ < (c162_.gKids.length : Int))) = true then
      (at' c162_.gKids b165_).bind fun c167_ =>
      (rimpl_sized c167_ (wr.i64 (b163_ + 1))).bind fun b168_ =>
      if (decide ((wr.i64 (b164_ + b168_)) > 400)) = true then
        some (.ret 401)
      else
        pimpl_sized_L2 k rimpl_sized c162_ b163_ m (wr.i64 (b164_ + b168_)) (wr.i64 (b165_ + 1))
    else
      some (.done b164_)
def pimpl_sized_J1 (k : Nat) (rimpl_sized : GTerm → Int → Option Int) (c162_ : GTerm) (b163_ : Int) : Option Int :=
  (pimpl_sized_L2 k rimpl_sized c162_ b163_ k 1 0).bind fun out2 => match out2 with
  | .ret r => some r
  | .done b166_ =>
    some b166_
mutual
/-- impl.sized -/
def pimpl_sized : Nat → GTerm → Int → Option Int
  | 0, _, _ => none
  | k + 1, c162_, b163_ =>
    if (decide (b163_ > 40)) = true then
      some 401
    else
      if (c162_.gKind == 1) = true then
        if (!(sEq c162_.gName (bs []))) = true then
          some 401
        else
          (pimpl_within k c162_.gNum 0 99999).bind fun d169_ =>
          if (!d169_) = true then
            some 401
          else
            if (decide ((c162_.gKids.length : Int) > 0)) = true then
              some 401
            else
              pimpl_sized_J1 k (pimpl_sized k) c162_ b163_
      else
        if (c162_.gKind == 2) = true then
          (pimpl_nameOk k c162_.gName).bind fun d170_ =>
          if (!d170_) = true then
            some 401
          else
            if (c162_.gNum != 0) = true then
              some 401
            else
              if (decide ((c162_.gKids.length : Int) > 0)) = true then
                some 401
              else
                pimpl_sized_J1 k (pimpl_sized k) c162_ b163_
        else
          if (c162_.gKind == 3) = true then
            if (!(sEq c162_.gName (bs []))) = true then
              some 401
            else
              (pimpl_within k c162_.gNum (-999999999) 999999999).bind fun d171_ =>
              if (!d171_) = true then
                some 401
              else
                if (decide ((c162_.gKids.length : Int) > 0)) = true then
                  some 401
                else
                  pimpl_sized_J1 k (pimpl_sized k) c162_ b163_
          else
            if (c162_.gKind == 4) = true then
              (pimpl_nameOk k c162_.gName).bind fun d172_ =>
              if (!d172_) = true then
                some 401
              else
                if (c162_.gNum != 0) = true then
                  some 401
                else
                  (pimpl_within k (c162_.gKids.length : Int) 1 5).bind fun d173_ =>
                  if (!d173_) = true then
                    some 401
                  else
                    pimpl_sized_J1 k (pimpl_sized k) c162_ b163_
            else
              some 401
end
theorem all_pimpl_sized : ∀ k : Nat, (∀ {c162_ : GTerm} {b163_ : Int} {r : Int}, pimpl_sized k c162_ b163_ = some r → FnO Try.prog 101 [.v (.agg [.int .i64 c162_.gKind, .str c162_.gName, .int .i64 c162_.gNum, .sl (List.map GTerm.c c162_.gKids)]) [], .v (.int .i64 b163_) []] (.v (.int .i64 r) []) []) := by
  intro k
  induction k with
  | zero =>
    · intro c162_ b163_ r h
      exact (onone (by rw [pimpl_sized] at h; exact h)).elim
  | succ k ih =>
    have ih_pimpl_sized := @ih
    · intro c162_ b163_ r h
      rw [pimpl_sized] at h
      refine FnO.of Try.func101 (rfl : Try.f101.body = some _) (Nat.le_of_ble_eq_true (by kernel_rfl)) (Nat.le_of_ble_eq_true (by kernel_rfl)) ?_
      intro w0 X0 Fin pv0 pb
      refine Wc.seq ?_
      refine Wc.region [] [] [1, 2] [2] [] ⟨[(1, (.v (.int .i64 b163_), [])), (2, (.ptr 2 0, []))], [(2, .cells [.int .i64 c162_.gKind, .str c162_.gName, .int .i64 c162_.gNum, .sl (List.map GTerm.c c162_.gKids)] [])], []⟩ _ (by kernel_rfl) .nil ?_
      refine Wc.seq ?_
      refine Wc.seq ?_
      refine Wc.region [] [] [1, 2, 9] [2] [] ⟨[(1, (.v (.int .i64 b163_), [])), (2, (.ptr 2 0, [])), (9, (.v (.bool (decide (b163_ > 40))), []))], [(2, .cells [.int .i64 c162_.gKind, .str c162_.gName, .int .i64 c162_.gNum, .sl (List.map GTerm.c c162_.gKids)] [])], []⟩ _ (by kernel_rfl) .nil ?_
      rcases oif h with ⟨h159, h⟩ | ⟨h159, h⟩
      · refine Wc.condT h159 (by kernel_rfl) ?_
        refine Wc.seq ?_
        refine Wc.region [] [] [4] [] [] ⟨[(4, (.v (.int .i64 401), []))], [], []⟩ _ (by kernel_rfl) .nil ?_
        refine Wc.ret ?_
        obtain rfl := Option.some.inj h
        exact ⟨.inl rfl, by kernel_rfl, by kernel_rfl⟩
      · refine Wc.condF h159 (by kernel_rfl) ?_
        refine Wc.fix (st' := ⟨[(1, (.v (.int .i64 b163_), [])), (2, (.ptr 2 0, []))], [(2, .cells [.int .i64 c162_.gKind, .str c162_.gName, .int .i64 c162_.gNum, .sl (List.map GTerm.c c162_.gKids)] [])], []⟩) [] [1, 2] [2] [] (by kernel_rfl) ?_
        refine Wc.skip ?_
        refine Wc.seqJ (fun st => st = ⟨[(1, (.v (.int .i64 b163_), [])), (2, (.ptr 2 0, []))], [(2, .cells [.int .i64 c162_.gKind, .str c162_.gName, .int .i64 c162_.gNum, .sl (List.map GTerm.c c162_.gKids)] [])], []⟩ ∧ pimpl_sized_J1 k (pimpl_sized k) c162_ b163_ = some r) ?_ ?_
        · refine Wc.seq ?_
          refine Wc.region [] [] [1, 2, 11] [2] [] ⟨[(1, (.v (.int .i64 b163_), [])), (2, (.ptr 2 0, [])), (11, (.v (.int .i64 c162_.gKind), []))], [(2, .cells [.int .i64 c162_.gKind, .str c162_.gName, .int .i64 c162_.gNum, .sl (List.map GTerm.c c162_.gKids)] [])], []⟩ _ (by kernel_rfl) .nil ?_
          refine Wc.block ?_
          refine Wc.seq ?_
          refine Wc.region [] [] [1, 2, 11, 12] [2] [] ⟨[(1, (.v (.int .i64 b163_), [])), (2, (.ptr 2 0, [])), (11, (.v (.int .i64 c162_.gKind), [])), (12, (.v (.bool (c162_.gKind == 1)), []))], [(2, .cells [.int .i64 c162_.gKind, .str c162_.gName, .int .i64 c162_.gNum, .sl (List.map GTerm.c c162_.gKids)] [])], []⟩ _ (by kernel_rfl) .nil ?_
          rcases oif h with ⟨h165, h⟩ | ⟨h165, h⟩
          · refine Wc.condT h165 (by kernel_rfl) ?_
            refine Wc.seq ?_
            rcases oif h with ⟨h166, h⟩ | ⟨h166, h⟩
            · refine Wc.region [{}, {}, {}, { re := some (.bool true) }] [] [1, 2, 28] [2] [] ⟨[(1, (.v (.int .i64 b163_), [])), (2, (.ptr 2 0, [])), (28, (.v (.bool true), []))], [(2, .cells [.int .i64 c162_.gKind, .str c162_.gName, .int .i64 c162_.gNum, .sl (List.map GTerm.c c162_.gKids)] [])], []⟩ _ (by kernel_rfl) (.cons (congrArg AV.bool h166) .nil) ?_
              refine Wc.condT rfl (by kernel_rfl) ?_
              refine Wc.seq ?_
              refine Wc.region [] [] [4] [] [] ⟨[(4, (.v (.int .i64 401), []))], [], []⟩ _ (by kernel_rfl) .nil ?_
              refine Wc.ret ?_
              obtain rfl := Option.some.inj h
              exact ⟨.inl rfl, by kernel_rfl, by kernel_rfl⟩
            · obtain ⟨d169_, h167, h⟩ := obind h
              rcases oif h with ⟨h168, h⟩ | ⟨h168, h⟩
              · refine Wc.region [{}, {}, {}, { re := some (.bool false) }, {}, {}, { r := some (.v (.bool d169_) []) }, {}, {}, { re := some (.bool true) }] [] [1, 2, 28] [2] [] ⟨[(1, (.v (.int .i64 b163_), [])), (2, (.ptr 2 0, [])), (28, (.v (.bool true), []))], [(2, .cells [.int .i64 c162_.gKind, .str c162_.gName, .int .i64 c162_.gNum, .sl (List.map GTerm.c c162_.gKids)] [])], []⟩ _ (by kernel_rfl) (.cons (congrArg AV.bool h166) (.cons (cimpl_within h167) (.cons (congrArg AV.bool h168) .nil))) ?_
                refine Wc.condT rfl (by kernel_rfl) ?_
                refine Wc.seq ?_
                refine Wc.region [] [] [4] [] [] ⟨[(4, (.v (.int .i64 401), []))], [], []⟩ _ (by kernel_rfl) .nil ?_
                refine Wc.ret ?_
                obtain rfl := Option.some.inj h
                exact ⟨.inl rfl, by kernel_rfl, by kernel_rfl⟩
              · refine Wc.region [{}, {}, {}, { re := some (.bool false) }, {}, {}, { r := some (.v (.bool d169_) []) }, {}, {}, { re := some (.bool false) }, {}, {}, { v := some (.int .i64 (c162_.gKids.length : Int)) }] [] [1, 2, 28] [2] [] ⟨[(1, (.v (.int .i64 b163_), [])), (2, (.ptr 2 0, [])), (28, (.v (.bool (decide ((c162_.gKids.length : Int) > 0))), []))], [(2, .cells [.int .i64 c162_.gKind, .str c162_.gName, .int .i64 c162_.gNum, .sl (List.map GTerm.c c162_.gKids)] [])], []⟩ _ (by kernel_rfl) (.cons (congrArg AV.bool h166) (.cons (cimpl_within h167) (.cons (congrArg AV.bool h168) (.cons (len_obl GTerm.c c162_.gKids) .nil)))) ?_
                rcases oif h with ⟨h169, h⟩ | ⟨h169, h⟩
                · refine Wc.condT h169 (by kernel_rfl) ?_
                  refine Wc.seq ?_
                  refine Wc.region [] [] [4] [] [] ⟨[(4, (.v (.int .i64 401), []))], [], []⟩ _ (by kernel_rfl) .nil ?_
                  refine Wc.ret ?_
                  obtain rfl := Option.some.inj h
                  exact ⟨.inl rfl, by kernel_rfl, by kernel_rfl⟩
                · refine Wc.condF h169 (by kernel_rfl) ?_
                  refine Wc.fix (st' := ⟨[(1, (.v (.int .i64 b163_), [])), (2, (.ptr 2 0, []))], [(2, .cells [.int .i64 c162_.gKind, .str c162_.gName, .int .i64 c162_.gNum, .sl (List.map GTerm.c c162_.gKids)] [])], []⟩) [] [1, 2] [2] [] (by kernel_rfl) ?_
                  refine Wc.skip ?_
                  exact ⟨rfl, h⟩
          · refine Wc.condF h165 (by kernel_rfl) ?_
            refine Wc.seq ?_
            refine Wc.region [] [] [1, 2, 11, 29] [2] [] ⟨[(1, (.v (.int .i64 b163_), [])), (2, (.ptr 2 0, [])), (11, (.v (.int .i64 c162_.gKind), [])), (29, (.v (.bool (c162_.gKind == 2)), []))], [(2, .cells [.int .i64 c162_.gKind, .str c162_.gName, .int .i64 c162_.gNum, .sl (List.map GTerm.c c162_.gKids)] [])], []⟩ _ (by kernel_rfl) .nil ?_
            rcases oif h with ⟨h170, h⟩ | ⟨h170, h⟩
            · refine Wc.condT h170 (by kernel_rfl) ?_
              refine Wc.seq ?_
              obtain ⟨d170_, h171, h⟩ := obind h
              rcases oif h with ⟨h172, h⟩ | ⟨h172, h⟩
              · refine Wc.region [{}, {}, { r := some (.v (.bool d170_) []) }, {}, { re := some (.bool true) }] [] [1, 2, 45] [2] [] ⟨[(1, (.v (.int .i64 b163_), [])), (2, (.ptr 2 0, [])), (45, (.v (.bool true), []))], [(2, .cells [.int .i64 c162_.gKind, .str c162_.gName, .int .i64 c162_.gNum, .sl (List.map GTerm.c c162_.gKids)] [])], []⟩ _ (by kernel_rfl) (.cons (cimpl_nameOk h171) (.cons (congrArg AV.bool h172) .nil)) ?_
                refine Wc.condT rfl (by kernel_rfl) ?_
                refine Wc.seq ?_
                refine Wc.region [] [] [4] [] [] ⟨[(4, (.v (.int .i64 401), []))], [], []⟩ _ (by kernel_rfl) .nil ?_
                refine Wc.ret ?_
                obtain rfl := Option.some.inj h
                exact ⟨.inl rfl, by kernel_rfl, by kernel_rfl⟩
              · rcases oif h with ⟨h173, h⟩ | ⟨h173, h⟩
                · refine Wc.region [{}, {}, { r := some (.v (.bool d170_) []) }, {}, { re := some (.bool false) }, {}, {}, {}, {}, { re := some (.bool true) }] [] [1, 2, 45] [2] [] ⟨[(1, (.v (.int .i64 b163_), [])), (2, (.ptr 2 0, [])), (45, (.v (.bool true), []))], [(2, .cells [.int .i64 c162_.gKind, .str c162_.gName, .int .i64 c162_.gNum, .sl (List.map GTerm.c c162_.gKids)] [])], []⟩ _ (by kernel_rfl) (.cons (cimpl_nameOk h171) (.cons (congrArg AV.bool h172) (.cons (congrArg AV.bool h173) .nil))) ?_
                  refine Wc.condT rfl (by kernel_rfl) ?_
                  refine Wc.seq ?_
                  refine Wc.region [] [] [4] [] [] ⟨[(4, (.v (.int .i64 401), []))], [], []⟩ _ (by kernel_rfl) .nil ?_
                  refine Wc.ret ?_
                  obtain rfl := Option.some.inj h
                  exact ⟨.inl rfl, by kernel_rfl, by kernel_rfl⟩
                · refine Wc.region [{}, {}, { r := some (.v (.bool d170_) []) }, {}, { re := some (.bool false) }, {}, {}, {}, {}, { re := some (.bool false) }, {}, {}, { v := some (.int .i64 (c162_.gKids.length : Int)) }] [] [1, 2, 45] [2] [] ⟨[(1, (.v (.int .i64 b163_), [])), (2, (.ptr 2 0, [])), (45, (.v (.bool (decide ((c162_.gKids.length : Int) > 0))), []))], [(2, .cells [.int .i64 c162_.gKind, .str c162_.gName, .int .i64 c162_.gNum, .sl (List.map GTerm.c c162_.gKids)] [])], []⟩ _ (by kernel_rfl) (.cons (cimpl_nameOk h171) (.cons (congrArg AV.bool h172) (.cons (congrArg AV.bool h173) (.cons (len_obl GTerm.c c162_.gKids) .nil)))) ?_
                  rcases oif h with ⟨h174, h⟩ | ⟨h174, h⟩
                  · refine Wc.condT h174 (by kernel_rfl) ?_
                    refine Wc.seq ?_
                    refine Wc.region [] [] [4] [] [] ⟨[(4, (.v (.int .i64 401), []))], [], []⟩ _ (by kernel_rfl) .nil ?_
                    refine Wc.ret ?_
                    obtain rfl := Option.some.inj h
                    exact ⟨.inl rfl, by kernel_rfl, by kernel_rfl⟩
                  · refine Wc.condF h174 (by kernel_rfl) ?_
                    refine Wc.fix (st' := ⟨[(1, (.v (.int .i64 b163_), [])), (2, (.ptr 2 0, []))], [(2, .cells [.int .i64 c162_.gKind, .str c162_.gName, .int .i64 c162_.gNum, .sl (List.map GTerm.c c162_.gKids)] [])], []⟩) [] [1, 2] [2] [] (by kernel_rfl) ?_
                    refine Wc.skip ?_
                    exact ⟨rfl, h⟩
            · refine Wc.condF h170 (by kernel_rfl) ?_
              refine Wc.seq ?_
              refine Wc.region [] [] [1, 2, 11, 46] [2] [] ⟨[(1, (.v (.int .i64 b163_), [])), (2, (.ptr 2 0, [])), (11, (.v (.int .i64 c162_.gKind), [])), (46, (.v (.bool (c162_.gKind == 3)), []))], [(2, .cells [.int .i64 c162_.gKind, .str c162_.gName, .int .i64 c162_.gNum, .sl (List.map GTerm.c c162_.gKids)] [])], []⟩ _ (by kernel_rfl) .nil ?_
              rcases oif h with ⟨h175, h⟩ | ⟨h175, h⟩
              · refine Wc.condT h175 (by kernel_rfl) ?_
                refine Wc.seq ?_
                rcases oif h with ⟨h176, h⟩ | ⟨h176, h⟩
                · refine Wc.region [{}, {}, {}, { re := some (.bool true) }] [] [1, 2, 62] [2] [] ⟨[(1, (.v (.int .i64 b163_), [])), (2, (.ptr 2 0, [])), (62, (.v (.bool true), []))], [(2, .cells [.int .i64 c162_.gKind, .str c162_.gName, .int .i64 c162_.gNum, .sl (List.map GTerm.c c162_.gKids)] [])], []⟩ _ (by kernel_rfl) (.cons (congrArg AV.bool h176) .nil) ?_
                  refine Wc.condT rfl (by kernel_rfl) ?_
                  refine Wc.seq ?_
                  refine Wc.region [] [] [4] [] [] ⟨[(4, (.v (.int .i64 401), []))], [], []⟩ _ (by kernel_rfl) .nil ?_
                  refine Wc.ret ?_
                  obtain rfl := Option.some.inj h
                  exact ⟨.inl rfl, by kernel_rfl, by kernel_rfl⟩
                · obtain ⟨d171_, h177, h⟩ := obind h
                  rcases oif h with ⟨h178, h⟩ | ⟨h178, h⟩
                  · refine Wc.region [{}, {}, {}, { re := some (.bool false) }, {}, {}, { r := some (.v (.bool d171_) []) }, {}, {}, { re := some (.bool true) }] [] [1, 2, 62] [2] [] ⟨[(1, (.v (.int .i64 b163_), [])), (2, (.ptr 2 0, [])), (62, (.v (.bool true), []))], [(2, .cells [.int .i64 c162_.gKind, .str c162_.gName, .int .i64 c162_.gNum, .sl (List.map GTerm.c c162_.gKids)] [])], []⟩ _ (by kernel_rfl) (.cons (congrArg AV.bool h176) (.cons (cimpl_within h177) (.cons (congrArg AV.bool h178) .nil))) ?_
                    refine Wc.condT rfl (by kernel_rfl) ?_
                    refine Wc.seq ?_
                    refine Wc.region [] [] [4] [] [] ⟨[(4, (.v (.int .i64 401), []))], [], []⟩ _ (by kernel_rfl) .nil ?_
                    refine Wc.ret ?_
                    obtain rfl := Option.some.inj h
                    exact ⟨.inl rfl, by kernel_rfl, by kernel_rfl⟩
                  · refine Wc.region [{}, {}, {}, { re := some (.bool false) }, {}, {}, { r := some (.v (.bool d171_) []) }, {}, {}, { re := some (.bool false) }, {}, {}, { v := some (.int .i64 (c162_.gKids.length : Int)) }] [] [1, 2, 62] [2] [] ⟨[(1, (.v (.int .i64 b163_), [])), (2, (.ptr 2 0, [])), (62, (.v (.bool (decide ((c162_.gKids.length : Int) > 0))), []))], [(2, .cells [.int .i64 c162_.gKind, .str c162_.gName, .int .i64 c162_.gNum, .sl (List.map GTerm.c c162_.gKids)] [])], []⟩ _ (by kernel_rfl) (.cons (congrArg AV.bool h176) (.cons (cimpl_within h177) (.cons (congrArg AV.bool h178) (.cons (len_obl GTerm.c c162_.gKids) .nil)))) ?_
                    rcases oif h with ⟨h179, h⟩ | ⟨h179, h⟩
                    · refine Wc.condT h179 (by kernel_rfl) ?_
                      refine Wc.seq ?_
                      refine Wc.region [] [] [4] [] [] ⟨[(4, (.v (.int .i64 401), []))], [], []⟩ _ (by kernel_rfl) .nil ?_
                      refine Wc.ret ?_
                      obtain rfl := Option.some.inj h
                      exact ⟨.inl rfl, by kernel_rfl, by kernel_rfl⟩
                    · refine Wc.condF h179 (by kernel_rfl) ?_
                      refine Wc.fix (st' := ⟨[(1, (.v (.int .i64 b163_), [])), (2, (.ptr 2 0, []))], [(2, .cells [.int .i64 c162_.gKind, .str c162_.gName, .int .i64 c162_.gNum, .sl (List.map GTerm.c c162_.gKids)] [])], []⟩) [] [1, 2] [2] [] (by kernel_rfl) ?_
                      refine Wc.skip ?_
                      exact ⟨rfl, h⟩
              · refine Wc.condF h175 (by kernel_rfl) ?_
                refine Wc.seq ?_
                refine Wc.region [] [] [1, 2, 63] [2] [] ⟨[(1, (.v (.int .i64 b163_), [])), (2, (.ptr 2 0, [])), (63, (.v (.bool (c162_.gKind == 4)), []))], [(2, .cells [.int .i64 c162_.gKind, .str c162_.gName, .int .i64 c162_.gNum, .sl (List.map GTerm.c c162_.gKids)] [])], []⟩ _ (by kernel_rfl) .nil ?_
                rcases oif h with ⟨h180, h⟩ | ⟨h180, h⟩
                · refine Wc.condT h180 (by kernel_rfl) ?_
                  refine Wc.seq ?_
                  obtain ⟨d172_, h181, h⟩ := obind h
                  rcases oif h with ⟨h182, h⟩ | ⟨h182, h⟩
                  · refine Wc.region [{}, {}, { r := some (.v (.bool d172_) []) }, {}, { re := some (.bool true) }] [] [1, 2, 80] [2] [] ⟨[(1, (.v (.int .i64 b163_), [])), (2, (.ptr 2 0, [])), (80, (.v (.bool true), []))], [(2, .cells [.int .i64 c162_.gKind, .str c162_.gName, .int .i64 c162_.gNum, .sl (List.map GTerm.c c162_.gKids)] [])], []⟩ _ (by kernel_rfl) (.cons (cimpl_nameOk h181) (.cons (congrArg AV.bool h182) .nil)) ?_
                    refine Wc.condT rfl (by kernel_rfl) ?_
                    refine Wc.seq ?_
                    refine Wc.region [] [] [4] [] [] ⟨[(4, (.v (.int .i64 401), []))], [], []⟩ _ (by kernel_rfl) .nil ?_
                    refine Wc.ret ?_
                    obtain rfl := Option.some.inj h
                    exact ⟨.inl rfl, by kernel_rfl, by kernel_rfl⟩
                  · rcases oif h with ⟨h183, h⟩ | ⟨h183, h⟩
                    · refine Wc.region [{}, {}, { r := some (.v (.bool d172_) []) }, {}, { re := some (.bool false) }, {}, {}, {}, {}, { re := some (.bool true) }] [] [1, 2, 80] [2] [] ⟨[(1, (.v (.int .i64 b163_), [])), (2, (.ptr 2 0, [])), (80, (.v (.bool true), []))], [(2, .cells [.int .i64 c162_.gKind, .str c162_.gName, .int .i64 c162_.gNum, .sl (List.map GTerm.c c162_.gKids)] [])], []⟩ _ (by kernel_rfl) (.cons (cimpl_nameOk h181) (.cons (congrArg AV.bool h182) (.cons (congrArg AV.bool h183) .nil))) ?_
                      refine Wc.condT rfl (by kernel_rfl) ?_
                      refine Wc.seq ?_
                      refine Wc.region [] [] [4] [] [] ⟨[(4, (.v (.int .i64 401), []))], [], []⟩ _ (by kernel_rfl) .nil ?_
                      refine Wc.ret ?_
                      obtain rfl := Option.some.inj h
                      exact ⟨.inl rfl, by kernel_rfl, by kernel_rfl⟩
                    · obtain ⟨d173_, h184, h⟩ := obind h
                      refine Wc.region [{}, {}, { r := some (.v (.bool d172_) []) }, {}, { re := some (.bool false) }, {}, {}, {}, {}, { re := some (.bool false) }, {}, {}, { v := some (.int .i64 (c162_.gKids.length : Int)) }, { r := some (.v (.bool d173_) []) }] [] [1, 2, 80] [2] [] ⟨[(1, (.v (.int .i64 b163_), [])), (2, (.ptr 2 0, [])), (80, (.v (.bool (!d173_)), []))], [(2, .cells [.int .i64 c162_.gKind, .str c162_.gName, .int .i64 c162_.gNum, .sl (List.map GTerm.c c162_.gKids)] [])], []⟩ _ (by kernel_rfl) (.cons (cimpl_nameOk h181) (.cons (congrArg AV.bool h182) (.cons (congrArg AV.bool h183) (.cons (len_obl GTerm.c c162_.gKids) (.cons (cimpl_within h184) .nil))))) ?_
                      rcases oif h with ⟨h185, h⟩ | ⟨h185, h⟩
                      · refine Wc.condT h185 (by kernel_rfl) ?_
                        refine Wc.seq ?_
                        refine Wc.region [] [] [4] [] [] ⟨[(4, (.v (.int .i64 401), []))], [], []⟩ _ (by kernel_rfl) .nil ?_
                        refine Wc.ret ?_
                        obtain rfl := Option.some.inj h
                        exact ⟨.inl rfl, by kernel_rfl, by kernel_rfl⟩
                      · refine Wc.condF h185 (by kernel_rfl) ?_
                        refine Wc.fix (st' := ⟨[(1, (.v (.int .i64 b163_), [])), (2, (.ptr 2 0, []))], [(2, .cells [.int .i64 c162_.gKind, .str c162_.gName, .int .i64 c162_.gNum, .sl (List.map GTerm.c c162_.gKids)] [])], []⟩) [] [1, 2] [2] [] (by kernel_rfl) ?_
                        refine Wc.skip ?_
                        exact ⟨rfl, h⟩
                · refine Wc.condF h180 (by kernel_rfl) ?_
                  refine Wc.seq ?_
                  refine Wc.region [] [] [4] [] [] ⟨[(4, (.v (.int .i64 401), []))], [], []⟩ _ (by kernel_rfl) .nil ?_
                  refine Wc.ret ?_
                  obtain rfl := Option.some.inj h
                  exact ⟨.inl rfl, by kernel_rfl, by kernel_rfl⟩
        · rintro st ⟨rfl, h⟩
          refine Wc.seq ?_
          refine Wc.region [] [] [1, 2, 5] [2] [] ⟨[(1, (.v (.int .i64 b163_), [])), (2, (.ptr 2 0, [])), (5, (.v (.int .i64 1), []))], [(2, .cells [.int .i64 c162_.gKind, .str c162_.gName, .int .i64 c162_.gNum, .sl (List.map GTerm.c c162_.gKids)] [])], []⟩ _ (by kernel_rfl) .nil ?_
          refine Wc.seq ?_
          refine Wc.seq ?_
          refine Wc.region [{}, {}, { v := some (.int .i64 (c162_.gKids.length : Int)) }] [] [1, 5, 82, 83, 84] [] [] ⟨[(1, (.v (.int .i64 b163_), [])), (5, (.v (.int .i64 1), [])), (82, (.v (.sl (List.map GTerm.c c162_.gKids)), [])), (83, (.v (.int .i64 (c162_.gKids.length : Int)), [])), (84, (.v (.int .i64 0), []))], [], []⟩ _ (by kernel_rfl) (.cons (len_obl GTerm.c c162_.gKids) .nil) ?_
          obtain ⟨out2, h160, h⟩ := obind h
          refine Wc.lastJ (fun st => ∃ (b166_ : Int), out2 = .done b166_ ∧ st = ⟨[(5, (.v (.int .i64 b166_), []))], [], []⟩) ?_ ?_
          · refine Wc.block ?_
            refine Wc.loop (fun m st => ∃ (b164_ : Int) (b165_ : Int), st = ⟨[(1, (.v (.int .i64 b163_), [])), (5, (.v (.int .i64 b164_), [])), (82, (.v (.sl (List.map GTerm.c c162_.gKids)), [])), (83, (.v (.int .i64 (c162_.gKids.length : Int)), [])), (84, (.v (.int .i64 b165_), []))], [], []⟩ ∧ pimpl_sized_L2 k (pimpl_sized k) c162_ b163_ m b164_ b165_ = some out2) ?_ k ⟨_, _, rfl, h160⟩
            rintro m st ⟨b164_, b165_, rfl, h160⟩
            cases m with
            | zero => exact (onone h160).elim
            | succ m =>
              refine Wc.seq ?_
              refine Wc.region [] [] [1, 5, 82, 83, 84, 85] [] [] ⟨[(1, (.v (.int .i64 b163_), [])), (5, (.v (.int .i64 b164_), [])), (82, (.v (.sl (List.map GTerm.c c162_.gKids)), [])), (83, (.v (.int .i64 (c162_.gKids.length : Int)), [])), (84, (.v (.int .i64 b165_), [])), (85, (.v (.bool (decide (b165_ < (c162_.gKids.length : Int)))), []))], [], []⟩ _ (by kernel_rfl) .nil ?_
              refine Wc.seq ?_
              rcases oif h160 with ⟨h161, h160⟩ | ⟨h161, h160⟩
              · refine Wc.condT h161 (by kernel_rfl) ?_
                refine Wc.fix (st' := ⟨[(1, (.v (.int .i64 b163_), [])), (5, (.v (.int .i64 b164_), [])), (82, (.v (.sl (List.map GTerm.c c162_.gKids)), [])), (83, (.v (.int .i64 (c162_.gKids.length : Int)), [])), (84, (.v (.int .i64 b165_), []))], [], []⟩) [] [1, 5, 82, 83, 84] [] [] (by kernel_rfl) ?_
                refine Wc.skip ?_
                refine Wc.seq ?_
                refine Wc.block ?_
                refine Wc.seq ?_
                obtain ⟨c167_, h162, h160⟩ := obind h160
                refine Wc.region [{ v := some (.vptr [.int .i64 c167_.gKind, .str c167_.gName, .int .i64 c167_.gNum, .sl (List.map GTerm.c c167_.gKids)]) }] [] [1, 5, 7, 82, 83, 84] [7] [] ⟨[(1, (.v (.int .i64 b163_), [])), (5, (.v (.int .i64 b164_), [])), (7, (.ptr 7 0, [])), (82, (.v (.sl (List.map GTerm.c c162_.gKids)), [])), (83, (.v (.int .i64 (c162_.gKids.length : Int)), [])), (84, (.v (.int .i64 b165_), []))], [(7, .cells [.int .i64 c167_.gKind, .str c167_.gName, .int .i64 c167_.gNum, .sl (List.map GTerm.c c167_.gKids)] [])], []⟩ _ (by kernel_rfl) (.cons (at_obl (c := GTerm.c) (GTerm.c_eq c167_) GTerm.c_len h162) (.cons (len_ok 4 [.int .i64 c167_.gKind, .str c167_.gName, .int .i64 c167_.gNum, .sl (List.map GTerm.c c167_.gKids)]) .nil)) ?_
                refine Wc.seq ?_
                obtain ⟨b168_, h163, h160⟩ := obind h160
                refine Wc.region [{}, {}, {}, {}, { r := some (.v (.int .i64 b168_) []) }] [] [1, 5, 82, 83, 84] [] [] ⟨[(1, (.v (.int .i64 b163_), [])), (5, (.v (.int .i64 (wr.i64 (b164_ + b168_))), [])), (82, (.v (.sl (List.map GTerm.c c162_.gKids)), [])), (83, (.v (.int .i64 (c162_.gKids.length : Int)), [])), (84, (.v (.int .i64 b165_), []))], [], []⟩ _ (by kernel_rfl) (.cons (ih_pimpl_sized h163) .nil) ?_
                refine Wc.seq ?_
                refine Wc.region [] [] [1, 5, 82, 83, 84, 95] [] [] ⟨[(1, (.v (.int .i64 b163_), [])), (5, (.v (.int .i64 (wr.i64 (b164_ + b168_))), [])), (82, (.v (.sl (List.map GTerm.c c162_.gKids)), [])), (83, (.v (.int .i64 (c162_.gKids.length : Int)), [])), (84, (.v (.int .i64 b165_), [])), (95, (.v (.bool (decide ((wr.i64 (b164_ + b168_)) > 400))), []))], [], []⟩ _ (by kernel_rfl) .nil ?_
                rcases oif h160 with ⟨h164, h160⟩ | ⟨h164, h160⟩
                · refine Wc.condT h164 (by kernel_rfl) ?_
                  refine Wc.seq ?_
                  refine Wc.region [] [] [4] [] [] ⟨[(4, (.v (.int .i64 401), []))], [], []⟩ _ (by kernel_rfl) .nil ?_
                  refine Wc.ret ?_
                  obtain rfl := Option.some.inj h160
                  obtain rfl := Option.some.inj h
                  exact ⟨.inl rfl, by kernel_rfl, by kernel_rfl⟩
                · refine Wc.condF h164 (by kernel_rfl) ?_
                  refine Wc.fix (st' := ⟨[(1, (.v (.int .i64 b163_), [])), (5, (.v (.int .i64 (wr.i64 (b164_ + b168_))), [])), (82, (.v (.sl (List.map GTerm.c c162_.gKids)), [])), (83, (.v (.int .i64 (c162_.gKids.length : Int)), [])), (84, (.v (.int .i64 b165_), []))], [], []⟩) [] [1, 5, 82, 83, 84] [] [] (by kernel_rfl) ?_
                  refine Wc.skip ?_
                  refine Wc.region [] [] [1, 5, 82, 83, 84] [] [] ⟨[(1, (.v (.int .i64 b163_), [])), (5, (.v (.int .i64 (wr.i64 (b164_ + b168_))), [])), (82, (.v (.sl (List.map GTerm.c c162_.gKids)), [])), (83, (.v (.int .i64 (c162_.gKids.length : Int)), [])), (84, (.v (.int .i64 (wr.i64 (b165_ + 1))), []))], [], []⟩ _ (by kernel_rfl) .nil ?_
                  exact ⟨_, Nat.lt_succ_self _, _, _, rfl, h160⟩
              · refine Wc.condF h161 (by kernel_rfl) ?_
                refine Wc.fix (st' := ⟨[(5, (.v (.int .i64 b164_), []))], [], []⟩) [] [5] [] [] (by kernel_rfl) ?_
                refine Wc.exit ?_
                obtain rfl := Option.some.inj h160
                exact ⟨_, rfl, rfl⟩
          · rintro st ⟨b166_, rfl, rfl⟩
            refine Wc.seq ?_
            refine Wc.region [] [] [4] [] [] ⟨[(4, (.v (.int .i64 b166_), []))], [], []⟩ _ (by kernel_rfl) .nil ?_
            refine Wc.ret ?_
            obtain rfl := Option.some.inj h
            exact ⟨.inl rfl, by kernel_rfl, by kernel_rfl⟩
theorem cimpl_sized {k : Nat} {c162_ : GTerm} {b163_ : Int} {r : Int} (h : pimpl_sized k c162_ b163_ = some r) : FnO Try.prog 101 [.v (.agg [.int .i64 c162_.gKind, .str c162_.gName, .int .i64 c162_.gNum, .sl (List.map GTerm.c c162_.gKids)]) [], .v (.int .i64 b163_) []] (.v (.int .i64 r) []) [] := (all_pimpl_sized k) h

/-- impl.TermOk -/
def pimpl_TermOk (k : Nat) (c174_ : GTerm) : Option Bool :=
  (pimpl_sized k c174_ 1).bind fun b175_ =>
  some (decide (b175_ ≤ 400))
theorem cimpl_TermOk {k : Nat} {c174_ : GTerm} {r : Bool} (h : pimpl_TermOk k c174_ = some r) : FnO Try.prog 76 [.v (.agg [.int .i64 c174_.gKind, .str c174_.gName, .int .i64 c174_.gNum, .sl (List.map GTerm.c c174_.gKids)]) []] (.v (.bool r) []) [] := by
  refine FnO.of Try.func76 (rfl : Try.f76.body = some _) (Nat.le_of_ble_eq_true (by kernel_rfl)) (Nat.le_of_ble_eq_true (by kernel_rfl)) ?_
  intro w0 X0 Fin pv0 pb
  unfold pimpl_TermOk at h
  refine Wc.seq ?_
  refine Wc.region [] [] [1] [1] [] ⟨[(1, (.ptr 1 0, []))], [(1, .cells [.int .i64 c174_.gKind, .str c174_.gName, .int .i64 c174_.gNum, .sl (List.map GTerm.c c174_.gKids)] [])], []⟩ _ (by kernel_rfl) .nil ?_
  refine Wc.seq ?_
  obtain ⟨b175_, h186, h⟩ := obind h
  refine Wc.region [{}, { r := some (.v (.int .i64 b175_) []) }] [] [2] [] [] ⟨[(2, (.v (.bool (decide (b175_ ≤ 400))), []))], [], []⟩ _ (by kernel_rfl) (.cons (cimpl_sized h186) .nil) ?_
  refine Wc.ret ?_
  obtain rfl := Option.some.inj h
  exact ⟨.inl rfl, by kernel_rfl, by kernel_rfl⟩

/-- impl.structure -/
def pimpl_structure (k : Nat) (e176_ : ByteArray) (a177_ : List GTerm) : Option GTerm :=
  some (GTerm.mk 4 e176_ 0 a177_)
theorem cimpl_structure {k : Nat} {e176_ : ByteArray} {a177_ : List GTerm} {r : GTerm} (h : pimpl_structure k e176_ a177_ = some r) : FnO Try.prog 60 [.v (.str e176_) [], .v (.sl (List.map GTerm.c a177_)) []] (.v (.agg [.int .i64 r.gKind, .str r.gName, .int .i64 r.gNum, .sl (List.map GTerm.c r.gKids)]) []) [] := by
  refine FnO.of Try.func60 (rfl : Try.f60.body = some _) (Nat.le_of_ble_eq_true (by kernel_rfl)) (Nat.le_of_ble_eq_true (by kernel_rfl)) ?_
  intro w0 X0 Fin pv0 pb
  unfold pimpl_structure at h
  refine Wc.seq ?_
  refine Wc.region [] [] [0, 1, 4] [4] [] ⟨[(0, (.v (.str e176_), [])), (1, (.v (.sl (List.map GTerm.c a177_)), [])), (4, (.ptr 4 0, []))], [(4, .cells [.int .i64 0, .str (bs []), .int .i64 0, .sl (List.map GTerm.c [])] [(3, .app 40)])], []⟩ _ (by kernel_rfl) .nil ?_
  refine Wc.seq ?_
  refine Wc.region [] [] [4] [4] [] ⟨[(4, (.ptr 4 0, []))], [(4, .cells [.int .i64 4, .str e176_, .int .i64 0, .sl (List.map GTerm.c a177_)] [])], []⟩ _ (by kernel_rfl) .nil ?_
  refine Wc.ret ?_
  obtain rfl := Option.some.inj h
  exact ⟨.inl rfl, by kernel_rfl, by kernel_rfl⟩

/-- impl.copyTerm$1 -/
def pimpl_copyTerm_1 (k : Nat) (b178_ : Int) : Option Int :=
  some b178_
theorem cimpl_copyTerm_1 {k : Nat} {b178_ : Int} {r : Int} (h : pimpl_copyTerm_1 k b178_ = some r) : FnO Try.prog 104 [.v (.int .i64 b178_) []] (.v (.int .i64 r) []) [] := by
  refine FnO.of Try.func104 (rfl : Try.f104.body = some _) (Nat.le_of_ble_eq_true (by kernel_rfl)) (Nat.le_of_ble_eq_true (by kernel_rfl)) ?_
  intro w0 X0 Fin pv0 pb
  unfold pimpl_copyTerm_1 at h
  refine Wc.seq ?_
  refine Wc.region [] [] [0] [] [] ⟨[(0, (.v (.int .i64 b178_), []))], [], []⟩ _ (by kernel_rfl) .nil ?_
  refine Wc.seq ?_
  refine Wc.region [] [] [2] [] [] ⟨[(2, (.v (.int .i64 b178_), []))], [], []⟩ _ (by kernel_rfl) .nil ?_
  refine Wc.ret ?_
  obtain rfl := Option.some.inj h
  exact ⟨.inl rfl, by kernel_rfl, by kernel_rfl⟩

def pimpl_renamed_on1_pimpl_copyTerm_1_L2 (k : Nat) (rimpl_renamed_on1_pimpl_copyTerm_1 : GTerm → Option GTerm) (c188_ : GTerm) : Nat → Int → GTerm → Option (Out GTerm GTerm)
  | 0, _, _ => none
  | m + 1, b190_, c191_ =>
    if (decide (b190_ < (c188_.gKids.length : Int))) = true then
      (at' c188_.gKids b190_).bind fun c193_ =>
      (rimpl_renamed_on1_pimpl_copyTerm_1 c193_).bind fun c194_ =>
      if c191_.gKids.length + [c194_].length ≤ 1073741824 then
        pimpl_renamed_on1_pimpl_copyTerm_1_L2 k rimpl_renamed_on1_pimpl_copyTerm_1 c188_ m (wr.i64 (b190_ + 1)) (GTerm.mk c191_.gKind c191_.gName c191_.gNum (c191_.gKids ++ [c194_]))
      else none
    else
      some (.done c191_)
def pimpl_renamed_on1_pimpl_copyTerm_1_J1 (k : Nat) (rimpl_renamed_on1_pimpl_copyTerm_1 : GTerm → Option GTerm) (c188_ : GTerm) (c189_ : GTerm) : Option GTerm :=
  (pimpl_renamed_on1_pimpl_copyTerm_1_L2 k rimpl_renamed_on1_pimpl_copyTerm_1 c188_ k 0 c189_).bind fun out2 => match out2 with
  | .ret r => some r
  | .done c192_ =>
    some c192_
mutual
/-- impl.renamed -/
def pimpl_renamed_on1_pimpl_copyTerm_1 : Nat → GTerm → Option GTerm
  | 0, _ => none
  | k + 1, c188_ =>
    if (c188_.gKind == 1) = true then
      (pimpl_copyTerm_1 k c188_.gNum).bind fun b195_ =>
      pimpl_renamed_on1_pimpl_copyTerm_1_J1 k (pimpl_renamed_on1_pimpl_copyTerm_1 k) c188_ (GTerm.mk c188_.gKind c188_.gName b195_ [])
    else
      pimpl_renamed_on1_pimpl_copyTerm_1_J1 k (pimpl_renamed_on1_pimpl_copyTerm_1 k) c188_ (GTerm.mk c188_.gKind c188_.gName c188_.gNum [])
end
theorem all_pimpl_renamed_on1_pimpl_copyTerm_1 : ∀ k : Nat, (∀ {c188_ : GTerm} {r : GTerm}, pimpl_renamed_on1_pimpl_copyTerm_1 k c188_ = some r → FnO Try.prog 103 [.v (.agg [.int .i64 c188_.gKind, .str c188_.gName, .int .i64 c188_.gNum, .sl (List.map GTerm.c c188_.gKids)]) [], .v (.func 104 []) []] (.v (.agg [.int .i64 r.gKind, .str r.gName, .int .i64 r.gNum, .sl (List.map GTerm.c r.gKids)]) [(3, .app 40)]) []) := by
  intro k
  induction k with
  | zero =>
    · intro c188_ r h
      exact (onone (by rw [pimpl_renamed_on1_pimpl_copyTerm_1] at h; exact h)).elim
  | succ k ih =>
    have ih_pimpl_renamed_on1_pimpl_copyTerm_1 := @ih
    · intro c188_ r h
      rw [pimpl_renamed_on1_pimpl_copyTerm_1] at h
      refine FnO.of Try.func103 (rfl : Try.f103.body = some _) (Nat.le_of_ble_eq_true (by kernel_rfl)) (Nat.le_of_ble_eq_true (by kernel_rfl)) ?_
      intro w0 X0 Fin pv0 pb
      refine Wc.seq ?_
      refine Wc.region [] [] [1, 2, 4] [2, 4] [] ⟨[(1, (.v (.func 104 []), [])), (2, (.ptr 2 0, [])), (4, (.ptr 4 0, []))], [(2, .cells [.int .i64 c188_.gKind, .str c188_.gName, .int .i64 c188_.gNum, .sl (List.map GTerm.c c188_.gKids)] []), (4, .cells [.int .i64 0, .str (bs []), .int .i64 0, .sl (List.map GTerm.c [])] [(3, .app 40)])], []⟩ _ (by kernel_rfl) .nil ?_
      refine Wc.seq ?_
      refine Wc.region [] [] [1, 2, 4, 5] [2, 4, 5] [] ⟨[(1, (.v (.func 104 []), [])), (2, (.ptr 2 0, [])), (4, (.ptr 4 0, [])), (5, (.ptr 5 0, []))], [(2, .cells [.int .i64 c188_.gKind, .str c188_.gName, .int .i64 c188_.gNum, .sl (List.map GTerm.c c188_.gKids)] []), (4, .cells [.int .i64 0, .str (bs []), .int .i64 0, .sl (List.map GTerm.c [])] [(3, .app 40)]), (5, .cells [.int .i64 c188_.gKind, .str c188_.gName, .int .i64 c188_.gNum, .sl (List.map GTerm.c c188_.gKids)] [])], []⟩ _ (by kernel_rfl) .nil ?_
      refine Wc.seq ?_
      refine Wc.region [] [] [1, 2, 4, 5] [2, 4, 5] [] ⟨[(1, (.v (.func 104 []), [])), (2, (.ptr 2 0, [])), (4, (.ptr 4 0, [])), (5, (.ptr 5 0, []))], [(2, .cells [.int .i64 c188_.gKind, .str c188_.gName, .int .i64 c188_.gNum, .sl (List.map GTerm.c c188_.gKids)] []), (4, .cells [.int .i64 0, .str (bs []), .int .i64 0, .sl (List.map GTerm.c [])] [(3, .app 40)]), (5, .cells [.int .i64 c188_.gKind, .str c188_.gName, .int .i64 c188_.gNum, .sl (List.map GTerm.c [])] [(3, .app 40)])], []⟩ _ (by kernel_rfl) .nil ?_
      refine Wc.seqJ (fun st => ∃ (c189_ : GTerm), st = ⟨[(1, (.v (.func 104 []), [])), (2, (.ptr 2 0, [])), (4, (.ptr 4 0, [])), (5, (.ptr 5 0, []))], [(2, .cells [.int .i64 c188_.gKind, .str c188_.gName, .int .i64 c188_.gNum, .sl (List.map GTerm.c c188_.gKids)] []), (4, .cells [.int .i64 0, .str (bs []), .int .i64 0, .sl (List.map GTerm.c [])] [(3, .app 40)]), (5, .cells [.int .i64 c189_.gKind, .str c189_.gName, .int .i64 c189_.gNum, .sl (List.map GTerm.c c189_.gKids)] [(3, .app 40)])], []⟩ ∧ pimpl_renamed_on1_pimpl_copyTerm_1_J1 k (pimpl_renamed_on1_pimpl_copyTerm_1 k) c188_ c189_ = some r) ?_ ?_
      · refine Wc.seq ?_
        refine Wc.region [] [] [1, 2, 4, 5, 12] [2, 4, 5] [] ⟨[(1, (.v (.func 104 []), [])), (2, (.ptr 2 0, [])), (4, (.ptr 4 0, [])), (5, (.ptr 5 0, [])), (12, (.v (.bool (c188_.gKind == 1)), []))], [(2, .cells [.int .i64 c188_.gKind, .str c188_.gName, .int .i64 c188_.gNum, .sl (List.map GTerm.c c188_.gKids)] []), (4, .cells [.int .i64 0, .str (bs []), .int .i64 0, .sl (List.map GTerm.c [])] [(3, .app 40)]), (5, .cells [.int .i64 c188_.gKind, .str c188_.gName, .int .i64 c188_.gNum, .sl (List.map GTerm.c [])] [(3, .app 40)])], []⟩ _ (by kernel_rfl) .nil ?_
        rcases oif h with ⟨h199, h⟩ | ⟨h199, h⟩
        · refine Wc.condT h199 (by kernel_rfl) ?_
          obtain ⟨b195_, h200, h⟩ := obind h
          refine Wc.region [{}, {}, {}, { r := some (.v (.int .i64 b195_) []) }] [] [1, 2, 4, 5] [2, 4, 5] [] ⟨[(1, (.v (.func 104 []), [])), (2, (.ptr 2 0, [])), (4, (.ptr 4 0, [])), (5, (.ptr 5 0, []))], [(2, .cells [.int .i64 c188_.gKind, .str c188_.gName, .int .i64 c188_.gNum, .sl (List.map GTerm.c c188_.gKids)] []), (4, .cells [.int .i64 0, .str (bs []), .int .i64 0, .sl (List.map GTerm.c [])] [(3, .app 40)]), (5, .cells [.int .i64 c188_.gKind, .str c188_.gName, .int .i64 b195_, .sl (List.map GTerm.c [])] [(3, .app 40)])], []⟩ _ (by kernel_rfl) (.cons (cimpl_copyTerm_1 h200) .nil) ?_
          exact ⟨_, rfl, h⟩
        · refine Wc.condF h199 (by kernel_rfl) ?_
          refine Wc.fix (st' := ⟨[(1, (.v (.func 104 []), [])), (2, (.ptr 2 0, [])), (4, (.ptr 4 0, [])), (5, (.ptr 5 0, []))], [(2, .cells [.int .i64 c188_.gKind, .str c188_.gName, .int .i64 c188_.gNum, .sl (List.map GTerm.c c188_.gKids)] []), (4, .cells [.int .i64 0, .str (bs []), .int .i64 0, .sl (List.map GTerm.c [])] [(3, .app 40)]), (5, .cells [.int .i64 c188_.gKind, .str c188_.gName, .int .i64 c188_.gNum, .sl (List.map GTerm.c [])] [(3, .app 40)])], []⟩) [] [1, 2, 4, 5] [2, 4, 5] [] (by kernel_rfl) ?_
          refine Wc.skip ?_
          exact ⟨_, rfl, h⟩
      · rintro st ⟨c189_, rfl, h⟩
        refine Wc.seq ?_
        refine Wc.seq ?_
        refine Wc.region [{}, {}, { v := some (.int .i64 (c188_.gKids.length : Int)) }] [] [1, 4, 5, 19, 20, 21] [4, 5] [] ⟨[(1, (.v (.func 104 []), [])), (4, (.ptr 4 0, [])), (5, (.ptr 5 0, [])), (19, (.v (.sl (List.map GTerm.c c188_.gKids)), [])), (20, (.v (.int .i64 (c188_.gKids.length : Int)), [])), (21, (.v (.int .i64 0), []))], [(4, .cells [.int .i64 0, .str (bs []), .int .i64 0, .sl (List.map GTerm.c [])] [(3, .app 40)]), (5, .cells [.int .i64 c189_.gKind, .str c189_.gName, .int .i64 c189_.gNum, .sl (List.map GTerm.c c189_.gKids)] [(3, .app 40)])], []⟩ _ (by kernel_rfl) (.cons (len_obl GTerm.c c188_.gKids) .nil) ?_
        obtain ⟨out2, h194, h⟩ := obind h
        refine Wc.lastJ (fun st => ∃ (c192_ : GTerm), out2 = .done c192_ ∧ st = ⟨[(4, (.ptr 4 0, [])), (5, (.ptr 5 0, []))], [(4, .cells [.int .i64 0, .str (bs []), .int .i64 0, .sl (List.map GTerm.c [])] [(3, .app 40)]), (5, .cells [.int .i64 c192_.gKind, .str c192_.gName, .int .i64 c192_.gNum, .sl (List.map GTerm.c c192_.gKids)] [(3, .app 40)])], []⟩) ?_ ?_
        · refine Wc.block ?_
          refine Wc.loop (fun m st => ∃ (b190_ : Int) (c191_ : GTerm), st = ⟨[(1, (.v (.func 104 []), [])), (4, (.ptr 4 0, [])), (5, (.ptr 5 0, [])), (19, (.v (.sl (List.map GTerm.c c188_.gKids)), [])), (20, (.v (.int .i64 (c188_.gKids.length : Int)), [])), (21, (.v (.int .i64 b190_), []))], [(4, .cells [.int .i64 0, .str (bs []), .int .i64 0, .sl (List.map GTerm.c [])] [(3, .app 40)]), (5, .cells [.int .i64 c191_.gKind, .str c191_.gName, .int .i64 c191_.gNum, .sl (List.map GTerm.c c191_.gKids)] [(3, .app 40)])], []⟩ ∧ pimpl_renamed_on1_pimpl_copyTerm_1_L2 k (pimpl_renamed_on1_pimpl_copyTerm_1 k) c188_ m b190_ c191_ = some out2) ?_ k ⟨_, _, rfl, h194⟩
          rintro m st ⟨b190_, c191_, rfl, h194⟩
          cases m with
          | zero => exact (onone h194).elim
          | succ m =>
            refine Wc.seq ?_
            refine Wc.region [] [] [1, 4, 5, 19, 20, 21, 22] [4, 5] [] ⟨[(1, (.v (.func 104 []), [])), (4, (.ptr 4 0, [])), (5, (.ptr 5 0, [])), (19, (.v (.sl (List.map GTerm.c c188_.gKids)), [])), (20, (.v (.int .i64 (c188_.gKids.length : Int)), [])), (21, (.v (.int .i64 b190_), [])), (22, (.v (.bool (decide (b190_ < (c188_.gKids.length : Int)))), []))], [(4, .cells [.int .i64 0, .str (bs []), .int .i64 0, .sl (List.map GTerm.c [])] [(3, .app 40)]), (5, .cells [.int .i64 c191_.gKind, .str c191_.gName, .int .i64 c191_.gNum, .sl (List.map GTerm.c c191_.gKids)] [(3, .app 40)])], []⟩ _ (by kernel_rfl) .nil ?_
            refine Wc.seq ?_
            rcases oif h194 with ⟨h195, h194⟩ | ⟨h195, h194⟩
            · refine Wc.condT h195 (by kernel_rfl) ?_
              refine Wc.fix (st' := ⟨[(1, (.v (.func 104 []), [])), (4, (.ptr 4 0, [])), (5, (.ptr 5 0, [])), (19, (.v (.sl (List.map GTerm.c c188_.gKids)), [])), (20, (.v (.int .i64 (c188_.gKids.length : Int)), [])), (21, (.v (.int .i64 b190_), []))], [(4, .cells [.int .i64 0, .str (bs []), .int .i64 0, .sl (List.map GTerm.c [])] [(3, .app 40)]), (5, .cells [.int .i64 c191_.gKind, .str c191_.gName, .int .i64 c191_.gNum, .sl (List.map GTerm.c c191_.gKids)] [(3, .app 40)])], []⟩) [] [1, 4, 5, 19, 20, 21] [4, 5] [] (by kernel_rfl) ?_
              refine Wc.skip ?_
              refine Wc.seq ?_
              refine Wc.block ?_
              refine Wc.seq ?_
              obtain ⟨c193_, h196, h194⟩ := obind h194
              refine Wc.region [{ v := some (.vptr [.int .i64 c193_.gKind, .str c193_.gName, .int .i64 c193_.gNum, .sl (List.map GTerm.c c193_.gKids)]) }] [] [1, 4, 5, 7, 19, 20, 21] [4, 5, 7] [] ⟨[(1, (.v (.func 104 []), [])), (4, (.ptr 4 0, [])), (5, (.ptr 5 0, [])), (7, (.ptr 7 0, [])), (19, (.v (.sl (List.map GTerm.c c188_.gKids)), [])), (20, (.v (.int .i64 (c188_.gKids.length : Int)), [])), (21, (.v (.int .i64 b190_), []))], [(4, .cells [.int .i64 0, .str (bs []), .int .i64 0, .sl (List.map GTerm.c [])] [(3, .app 40)]), (5, .cells [.int .i64 c191_.gKind, .str c191_.gName, .int .i64 c191_.gNum, .sl (List.map GTerm.c c191_.gKids)] [(3, .app 40)]), (7, .cells [.int .i64 c193_.gKind, .str c193_.gName, .int .i64 c193_.gNum, .sl (List.map GTerm.c c193_.gKids)] [])], []⟩ _ (by kernel_rfl) (.cons (at_obl (c := GTerm.c) (GTerm.c_eq c193_) GTerm.c_len h196) (.cons (len_ok 4 [.int .i64 c193_.gKind, .str c193_.gName, .int .i64 c193_.gNum, .sl (List.map GTerm.c c193_.gKids)]) .nil)) ?_
              obtain ⟨c194_, h197, h194⟩ := obind h194
              obtain ⟨h198, h194⟩ := oguard h194
              refine Wc.draw hmix [{}, { md := 1 }, {}, {}, { r := some (.v (.agg [.int .i64 c194_.gKind, .str c194_.gName, .int .i64 c194_.gNum, .sl (List.map GTerm.c c194_.gKids)]) [(3, .app 40)]) }, { c := some (List.map GTerm.c [c194_]) }, { c := some (List.map GTerm.c (c191_.gKids ++ [c194_])), tk := [26] }, {}, { tk := [31] }] [] [1, 4, 5, 19, 20, 21] [4, 5] [] ⟨[(1, (.v (.func 104 []), [])), (4, (.ptr 4 0, [])), (5, (.ptr 5 0, [])), (19, (.v (.sl (List.map GTerm.c c188_.gKids)), [])), (20, (.v (.int .i64 (c188_.gKids.length : Int)), [])), (21, (.v (.int .i64 b190_), []))], [(4, .cells [.int .i64 0, .str (bs []), .int .i64 0, .sl (List.map GTerm.c [])] [(3, .app 40)]), (5, .cells [.int .i64 c191_.gKind, .str c191_.gName, .int .i64 c191_.gNum, .sl (List.map GTerm.c (c191_.gKids ++ [c194_]))] [(3, .app 40)])], []⟩ _ (by kernel_rfl) (fun X => by kernel_rfl) (.cons (ih_pimpl_renamed_on1_pimpl_copyTerm_1 h197) (.cons (cl_cons (c := GTerm.c) (x := c194_) (GTerm.c_eq c194_) (cl_nil GTerm.c)) (.cons (app_re2 GTerm.c c191_.gKids [c194_]) (.cons (app_leaf (c := GTerm.c) (ys := [c194_]) GTerm.c_leaf) (.cons (app_obl2 (c := GTerm.c) (xs := c191_.gKids) (ys := [c194_]) GTerm.c_len h198) .nil))))) ?_
              refine Wc.region [] [] [1, 4, 5, 19, 20, 21] [4, 5] [] ⟨[(1, (.v (.func 104 []), [])), (4, (.ptr 4 0, [])), (5, (.ptr 5 0, [])), (19, (.v (.sl (List.map GTerm.c c188_.gKids)), [])), (20, (.v (.int .i64 (c188_.gKids.length : Int)), [])), (21, (.v (.int .i64 (wr.i64 (b190_ + 1))), []))], [(4, .cells [.int .i64 0, .str (bs []), .int .i64 0, .sl (List.map GTerm.c [])] [(3, .app 40)]), (5, .cells [.int .i64 c191_.gKind, .str c191_.gName, .int .i64 c191_.gNum, .sl (List.map GTerm.c (c191_.gKids ++ [c194_]))] [(3, .app 40)])], []⟩ _ (by kernel_rfl) .nil ?_
              exact ⟨_, Nat.lt_succ_self _, _, _, rfl, h194⟩
            · refine Wc.condF h195 (by kernel_rfl) ?_
              refine Wc.fix (st' := ⟨[(4, (.ptr 4 0, [])), (5, (.ptr 5 0, []))], [(4, .cells [.int .i64 0, .str (bs []), .int .i64 0, .sl (List.map GTerm.c [])] [(3, .app 40)]), (5, .cells [.int .i64 c191_.gKind, .str c191_.gName, .int .i64 c191_.gNum, .sl (List.map GTerm.c c191_.gKids)] [(3, .app 40)])], []⟩) [] [4, 5] [4, 5] [] (by kernel_rfl) ?_
              refine Wc.exit ?_
              obtain rfl := Option.some.inj h194
              exact ⟨_, rfl, rfl⟩
        · rintro st ⟨c192_, rfl, rfl⟩
          refine Wc.seq ?_
          refine Wc.region [{ md := 1 }, { tk := [34] }] [] [4] [4] [] ⟨[(4, (.ptr 4 0, []))], [(4, .cells [.int .i64 c192_.gKind, .str c192_.gName, .int .i64 c192_.gNum, .sl (List.map GTerm.c c192_.gKids)] [(3, .app 40)])], []⟩ _ (by kernel_rfl) .nil ?_
          refine Wc.ret ?_
          obtain rfl := Option.some.inj h
          exact ⟨.inl rfl, by kernel_rfl, by kernel_rfl⟩
theorem cimpl_renamed_on1_pimpl_copyTerm_1 {k : Nat} {c188_ : GTerm} {r : GTerm} (h : pimpl_renamed_on1_pimpl_copyTerm_1 k c188_ = some r) : FnO Try.prog 103 [.v (.agg [.int .i64 c188_.gKind, .str c188_.gName, .int .i64 c188_.gNum, .sl (List.map GTerm.c c188_.gKids)]) [], .v (.func 104 []) []] (.v (.agg [.int .i64 r.gKind, .str r.gName, .int .i64 r.gNum, .sl (List.map GTerm.c r.gKids)]) [(3, .app 40)]) [] := (all_pimpl_renamed_on1_pimpl_copyTerm_1 k) h

/-- impl.copyTerm -/
def pimpl_copyTerm (k : Nat) (c181_ : GTerm) : Option GTerm :=
  (pimpl_renamed_on1_pimpl_copyTerm_1 k c181_).bind fun c182_ =>
  some c182_
theorem cimpl_copyTerm {k : Nat} {c181_ : GTerm} {r : GTerm} (h : pimpl_copyTerm k c181_ = some r) : FnO Try.prog 78 [.v (.agg [.int .i64 c181_.gKind, .str c181_.gName, .int .i64 c181_.gNum, .sl (List.map GTerm.c c181_.gKids)]) []] (.v (.agg [.int .i64 r.gKind, .str r.gName, .int .i64 r.gNum, .sl (List.map GTerm.c r.gKids)]) [(3, .app 40)]) [] := by
  refine FnO.of Try.func78 (rfl : Try.f78.body = some _) (Nat.le_of_ble_eq_true (by kernel_rfl)) (Nat.le_of_ble_eq_true (by kernel_rfl)) ?_
  intro w0 X0 Fin pv0 pb
  unfold pimpl_copyTerm at h
  refine Wc.seq ?_
  refine Wc.region [] [] [1, 2] [1, 2] [] ⟨[(1, (.ptr 1 0, [])), (2, (.ptr 2 0, []))], [(1, .cells [.int .i64 c181_.gKind, .str c181_.gName, .int .i64 c181_.gNum, .sl (List.map GTerm.c c181_.gKids)] []), (2, .cells [.int .i64 0, .str (bs []), .int .i64 0, .sl (List.map GTerm.c [])] [(3, .app 40)])], []⟩ _ (by kernel_rfl) .nil ?_
  refine Wc.seq ?_
  obtain ⟨c182_, h188, h⟩ := obind h
  refine Wc.region [{}, { r := some (.v (.agg [.int .i64 c182_.gKind, .str c182_.gName, .int .i64 c182_.gNum, .sl (List.map GTerm.c c182_.gKids)]) [(3, .app 40)]) }, { tk := [4] }] [] [2] [2] [] ⟨[(2, (.ptr 2 0, []))], [(2, .cells [.int .i64 c182_.gKind, .str c182_.gName, .int .i64 c182_.gNum, .sl (List.map GTerm.c c182_.gKids)] [(3, .app 40)])], []⟩ _ (by kernel_rfl) (.cons (cimpl_renamed_on1_pimpl_copyTerm_1 h188) .nil) ?_
  refine Wc.ret ?_
  obtain rfl := Option.some.inj h
  exact ⟨.inl rfl, by kernel_rfl, by kernel_rfl⟩

def pimpl_listOf_L1 (k : Nat) (a183_ : List GTerm) : Nat → Int → GTerm → Option (Out GTerm GTerm)
  | 0, _, _ => none
  | m + 1, b185_, c186_ =>
    if (decide (b185_ ≥ 0)) = true then
      (at' a183_ b185_).bind fun c188_ =>
      (pimpl_copyTerm k c188_).bind fun c189_ =>
      (pimpl_structure k (bs [46]) [c189_, c186_]).bind fun c190_ =>
      pimpl_listOf_L1 k a183_ m (wr.i64 (b185_ - 1)) c190_
    else
      some (.done c186_)
/-- impl.listOf -/
def pimpl_listOf (k : Nat) (a183_ : List GTerm) (c184_ : GTerm) : Option GTerm :=
  (pimpl_listOf_L1 k a183_ k (wr.i64 ((a183_.length : Int) - 1)) c184_).bind fun out1 => match out1 with
  | .ret r => some r
  | .done c187_ =>
    some c187_
theorem cimpl_listOf {k : Nat} {a183_ : List GTerm} {c184_ : GTerm} {r : GTerm} (h : pimpl_listOf k a183_ c184_ = some r) : FnO Try.prog 83 [.v (.sl (List.map GTerm.c a183_)) [], .v (.agg [.int .i64 c184_.gKind, .str c184_.gName, .int .i64 c184_.gNum, .sl (List.map GTerm.c c184_.gKids)]) []] (.v (.agg [.int .i64 r.gKind, .str r.gName, .int .i64 r.gNum, .sl (List.map GTerm.c r.gKids)]) []) [] := by
  refine FnO.of Try.func83 (rfl : Try.f83.body = some _) (Nat.le_of_ble_eq_true (by kernel_rfl)) (Nat.le_of_ble_eq_true (by kernel_rfl)) ?_
  intro w0 X0 Fin pv0 pb
  unfold pimpl_listOf at h
  refine Wc.seq ?_
  refine Wc.region [] [] [0, 3, 4] [3, 4] [] ⟨[(0, (.v (.sl (List.map GTerm.c a183_)), [])), (3, (.ptr 3 0, [])), (4, (.ptr 4 0, []))], [(3, .cells [.int .i64 c184_.gKind, .str c184_.gName, .int .i64 c184_.gNum, .sl (List.map GTerm.c c184_.gKids)] []), (4, .cells [.int .i64 0, .str (bs []), .int .i64 0, .sl (List.map GTerm.c [])] [(3, .app 40)])], []⟩ _ (by kernel_rfl) .nil ?_
  refine Wc.seq ?_
  refine Wc.seq ?_
  refine Wc.region [{}, { v := some (.int .i64 (a183_.length : Int)) }] [] [0, 3, 4, 5] [3, 4] [] ⟨[(0, (.v (.sl (List.map GTerm.c a183_)), [])), (3, (.ptr 3 0, [])), (4, (.ptr 4 0, [])), (5, (.v (.int .i64 (wr.i64 ((a183_.length : Int) - 1))), []))], [(3, .cells [.int .i64 c184_.gKind, .str c184_.gName, .int .i64 c184_.gNum, .sl (List.map GTerm.c c184_.gKids)] []), (4, .cells [.int .i64 0, .str (bs []), .int .i64 0, .sl (List.map GTerm.c [])] [(3, .app 40)])], []⟩ _ (by kernel_rfl) (.cons (len_obl GTerm.c a183_) .nil) ?_
  obtain ⟨out1, h189, h⟩ := obind h
  refine Wc.lastJ (fun st => ∃ (c187_ : GTerm), out1 = .done c187_ ∧ st = ⟨[(3, (.ptr 3 0, [])), (4, (.ptr 4 0, []))], [(3, .cells [.int .i64 c187_.gKind, .str c187_.gName, .int .i64 c187_.gNum, .sl (List.map GTerm.c c187_.gKids)] []), (4, .cells [.int .i64 0, .str (bs []), .int .i64 0, .sl (List.map GTerm.c [])] [(3, .app 40)])], []⟩) ?_ ?_
  · refine Wc.block ?_
    refine Wc.loop (fun m st => ∃ (b185_ : Int) (c186_ : GTerm), st = ⟨[(0, (.v (.sl (List.map GTerm.c a183_)), [])), (3, (.ptr 3 0, [])), (4, (.ptr 4 0, [])), (5, (.v (.int .i64 b185_), []))], [(3, .cells [.int .i64 c186_.gKind, .str c186_.gName, .int .i64 c186_.gNum, .sl (List.map GTerm.c c186_.gKids)] []), (4, .cells [.int .i64 0, .str (bs []), .int .i64 0, .sl (List.map GTerm.c [])] [(3, .app 40)])], []⟩ ∧ pimpl_listOf_L1 k a183_ m b185_ c186_ = some out1) ?_ k ⟨_, _, rfl, h189⟩
    rintro m st ⟨b185_, c186_, rfl, h189⟩
    cases m with
    | zero => exact (onone h189).elim
    | succ m =>
      refine Wc.seq ?_
      refine Wc.seq ?_
      refine Wc.region [] [] [0, 3, 4, 5, 10] [3, 4] [] ⟨[(0, (.v (.sl (List.map GTerm.c a183_)), [])), (3, (.ptr 3 0, [])), (4, (.ptr 4 0, [])), (5, (.v (.int .i64 b185_), [])), (10, (.v (.bool (decide (b185_ ≥ 0))), []))], [(3, .cells [.int .i64 c186_.gKind, .str c186_.gName, .int .i64 c186_.gNum, .sl (List.map GTerm.c c186_.gKids)] []), (4, .cells [.int .i64 0, .str (bs []), .int .i64 0, .sl (List.map GTerm.c [])] [(3, .app 40)])], []⟩ _ (by kernel_rfl) .nil ?_
      rcases oif h189 with ⟨h190, h189⟩ | ⟨h190, h189⟩
      · refine Wc.condT h190 (by kernel_rfl) ?_
        refine Wc.fix (st' := ⟨[(0, (.v (.sl (List.map GTerm.c a183_)), [])), (3, (.ptr 3 0, [])), (4, (.ptr 4 0, [])), (5, (.v (.int .i64 b185_), []))], [(3, .cells [.int .i64 c186_.gKind, .str c186_.gName, .int .i64 c186_.gNum, .sl (List.map GTerm.c c186_.gKids)] []), (4, .cells [.int .i64 0, .str (bs []), .int .i64 0, .sl (List.map GTerm.c [])] [(3, .app 40)])], []⟩) [] [0, 3, 4, 5] [3, 4] [] (by kernel_rfl) ?_
        refine Wc.skip ?_
        refine Wc.seq ?_
        refine Wc.block ?_
        obtain ⟨c188_, h191, h189⟩ := obind h189
        obtain ⟨c189_, h192, h189⟩ := obind h189
        obtain ⟨c190_, h193, h189⟩ := obind h189
        refine Wc.draw hmix [{}, {}, { v := some (.vptr [.int .i64 c188_.gKind, .str c188_.gName, .int .i64 c188_.gNum, .sl (List.map GTerm.c c188_.gKids)]) }, {}, { r := some (.v (.agg [.int .i64 c189_.gKind, .str c189_.gName, .int .i64 c189_.gNum, .sl (List.map GTerm.c c189_.gKids)]) [(3, .app 40)]) }, {}, { c := some (List.map GTerm.c [c189_, c186_]) }, { r := some (.v (.agg [.int .i64 c190_.gKind, .str c190_.gName, .int .i64 c190_.gNum, .sl (List.map GTerm.c c190_.gKids)]) []) }] [] [0, 3, 4, 5] [3, 4] [] ⟨[(0, (.v (.sl (List.map GTerm.c a183_)), [])), (3, (.ptr 3 0, [])), (4, (.ptr 4 0, [])), (5, (.v (.int .i64 b185_), []))], [(3, .cells [.int .i64 c190_.gKind, .str c190_.gName, .int .i64 c190_.gNum, .sl (List.map GTerm.c c190_.gKids)] []), (4, .cells [.int .i64 0, .str (bs []), .int .i64 0, .sl (List.map GTerm.c [])] [(3, .app 40)])], []⟩ _ (by kernel_rfl) (fun X => by kernel_rfl) (.cons (at_obl (c := GTerm.c) (GTerm.c_eq c188_) GTerm.c_len h191) (.cons (len_ok 4 [.int .i64 c188_.gKind, .str c188_.gName, .int .i64 c188_.gNum, .sl (List.map GTerm.c c188_.gKids)]) (.cons (cimpl_copyTerm h192) (.cons (cl_cons (c := GTerm.c) (x := c189_) (GTerm.c_eq c189_) (cl_cons (c := GTerm.c) (x := c186_) (GTerm.c_eq c186_) (cl_nil GTerm.c))) (.cons (cimpl_structure h193) .nil))))) ?_
        refine Wc.region [] [] [0, 3, 4, 5] [3, 4] [] ⟨[(0, (.v (.sl (List.map GTerm.c a183_)), [])), (3, (.ptr 3 0, [])), (4, (.ptr 4 0, [])), (5, (.v (.int .i64 (wr.i64 (b185_ - 1))), []))], [(3, .cells [.int .i64 c190_.gKind, .str c190_.gName, .int .i64 c190_.gNum, .sl (List.map GTerm.c c190_.gKids)] []), (4, .cells [.int .i64 0, .str (bs []), .int .i64 0, .sl (List.map GTerm.c [])] [(3, .app 40)])], []⟩ _ (by kernel_rfl) .nil ?_
        exact ⟨_, Nat.lt_succ_self _, _, _, rfl, h189⟩
      · refine Wc.condF h190 (by kernel_rfl) ?_
        refine Wc.fix (st' := ⟨[(3, (.ptr 3 0, [])), (4, (.ptr 4 0, []))], [(3, .cells [.int .i64 c186_.gKind, .str c186_.gName, .int .i64 c186_.gNum, .sl (List.map GTerm.c c186_.gKids)] []), (4, .cells [.int .i64 0, .str (bs []), .int .i64 0, .sl (List.map GTerm.c [])] [(3, .app 40)])], []⟩) [] [3, 4] [3, 4] [] (by kernel_rfl) ?_
        refine Wc.exit ?_
        obtain rfl := Option.some.inj h189
        exact ⟨_, rfl, rfl⟩
  · rintro st ⟨c187_, rfl, rfl⟩
    refine Wc.seq ?_
    refine Wc.region [] [] [4] [4] [] ⟨[(4, (.ptr 4 0, []))], [(4, .cells [.int .i64 c187_.gKind, .str c187_.gName, .int .i64 c187_.gNum, .sl (List.map GTerm.c c187_.gKids)] [])], []⟩ _ (by kernel_rfl) .nil ?_
    refine Wc.ret ?_
    obtain rfl := Option.some.inj h
    exact ⟨.inl rfl, by kernel_rfl, by kernel_rfl⟩

/-- impl.ListTerm -/
def pimpl_ListTerm (k : Nat) (a197_ : List GTerm) : Option GTerm :=
  (pimpl_atom k (bs [91, 93])).bind fun c198_ =>
  (pimpl_listOf k a197_ c198_).bind fun c199_ =>
  if (decide ((a197_.length : Int) ≤ 400)) = true then
    (pimpl_TermOk k c199_).bind fun d200_ =>
    if d200_ = true then
      some c199_
    else
      (pimpl_atom k (bs [91, 93])).bind fun c201_ =>
      some c201_
  else
    (pimpl_atom k (bs [91, 93])).bind fun c202_ =>
    some c202_
theorem cimpl_ListTerm {k : Nat} {a197_ : List GTerm} {r : GTerm} (h : pimpl_ListTerm k a197_ = some r) : FnO Try.prog 43 [.v (.sl (List.map GTerm.c a197_)) []] (.v (.agg [.int .i64 r.gKind, .str r.gName, .int .i64 r.gNum, .sl (List.map GTerm.c r.gKids)]) []) [] := by
  refine FnO.of Try.func43 (rfl : Try.f43.body = some _) (Nat.le_of_ble_eq_true (by kernel_rfl)) (Nat.le_of_ble_eq_true (by kernel_rfl)) ?_
  intro w0 X0 Fin pv0 pb
  unfold pimpl_ListTerm at h
  refine Wc.seq ?_
  refine Wc.region [] [] [0, 2] [2] [] ⟨[(0, (.v (.sl (List.map GTerm.c a197_)), [])), (2, (.ptr 2 0, []))], [(2, .cells [.int .i64 0, .str (bs []), .int .i64 0, .sl (List.map GTerm.c [])] [(3, .app 40)])], []⟩ _ (by kernel_rfl) .nil ?_
  refine Wc.seq ?_
  refine Wc.seq ?_
  obtain ⟨c198_, h201, h⟩ := obind h
  obtain ⟨c199_, h202, h⟩ := obind h
  refine Wc.region [{}, { r := some (.v (.agg [.int .i64 c198_.gKind, .str c198_.gName, .int .i64 c198_.gNum, .sl (List.map GTerm.c c198_.gKids)]) [(3, .app 40)]) }, { r := some (.v (.agg [.int .i64 c199_.gKind, .str c199_.gName, .int .i64 c199_.gNum, .sl (List.map GTerm.c c199_.gKids)]) []) }] [] [0, 2, 3] [2, 3] [] ⟨[(0, (.v (.sl (List.map GTerm.c a197_)), [])), (2, (.ptr 2 0, [])), (3, (.ptr 3 0, []))], [(2, .cells [.int .i64 0, .str (bs []), .int .i64 0, .sl (List.map GTerm.c [])] [(3, .app 40)]), (3, .cells [.int .i64 c199_.gKind, .str c199_.gName, .int .i64 c199_.gNum, .sl (List.map GTerm.c c199_.gKids)] [])], []⟩ _ (by kernel_rfl) (.cons (cimpl_atom h201) (.cons (cimpl_listOf h202) .nil)) ?_
  refine Wc.seq ?_
  rcases oif h with ⟨h203, h⟩ | ⟨h203, h⟩
  · obtain ⟨d200_, h204, h⟩ := obind h
    refine Wc.region [{}, { v := some (.int .i64 (a197_.length : Int)) }, {}, { re := some (.bool true) }, {}, { r := some (.v (.bool d200_) []) }] [] [2, 3, 13] [2, 3] [] ⟨[(2, (.ptr 2 0, [])), (3, (.ptr 3 0, [])), (13, (.v (.bool d200_), []))], [(2, .cells [.int .i64 0, .str (bs []), .int .i64 0, .sl (List.map GTerm.c [])] [(3, .app 40)]), (3, .cells [.int .i64 c199_.gKind, .str c199_.gName, .int .i64 c199_.gNum, .sl (List.map GTerm.c c199_.gKids)] [])], []⟩ _ (by kernel_rfl) (.cons (len_obl GTerm.c a197_) (.cons (congrArg AV.bool h203) (.cons (cimpl_TermOk h204) .nil))) ?_
    rcases oif h with ⟨h205, h⟩ | ⟨h205, h⟩
    · refine Wc.condT h205 (by kernel_rfl) ?_
      refine Wc.seq ?_
      refine Wc.region [] [] [2] [2] [] ⟨[(2, (.ptr 2 0, []))], [(2, .cells [.int .i64 c199_.gKind, .str c199_.gName, .int .i64 c199_.gNum, .sl (List.map GTerm.c c199_.gKids)] [])], []⟩ _ (by kernel_rfl) .nil ?_
      refine Wc.ret ?_
      obtain rfl := Option.some.inj h
      exact ⟨.inl rfl, by kernel_rfl, by kernel_rfl⟩
    · refine Wc.condF h205 (by kernel_rfl) ?_
      refine Wc.fix (st' := ⟨[(2, (.ptr 2 0, []))], [(2, .cells [.int .i64 0, .str (bs []), .int .i64 0, .sl (List.map GTerm.c [])] [(3, .app 40)])], []⟩) [] [2] [2] [] (by kernel_rfl) ?_
      refine Wc.skip ?_
      refine Wc.seq ?_
      obtain ⟨c201_, h206, h⟩ := obind h
      refine Wc.region [{ r := some (.v (.agg [.int .i64 c201_.gKind, .str c201_.gName, .int .i64 c201_.gNum, .sl (List.map GTerm.c c201_.gKids)]) [(3, .app 40)]) }, { tk := [15] }] [] [2] [2] [] ⟨[(2, (.ptr 2 0, []))], [(2, .cells [.int .i64 c201_.gKind, .str c201_.gName, .int .i64 c201_.gNum, .sl (List.map GTerm.c c201_.gKids)] [(3, .app 40)])], []⟩ _ (by kernel_rfl) (.cons (cimpl_atom h206) .nil) ?_
      refine Wc.fix (st' := ⟨[(2, (.ptr 2 0, []))], [(2, .cells [.int .i64 c201_.gKind, .str c201_.gName, .int .i64 c201_.gNum, .sl (List.map GTerm.c c201_.gKids)] [])], []⟩) [.un (.b 2 3)] [2] [2] [] (by kernel_rfl) ?_
      refine Wc.ret ?_
      obtain rfl := Option.some.inj h
      exact ⟨.inl rfl, by kernel_rfl, by kernel_rfl⟩
  · refine Wc.region [{}, { v := some (.int .i64 (a197_.length : Int)) }, {}, { re := some (.bool false) }] [] [2, 3, 13] [2, 3] [] ⟨[(2, (.ptr 2 0, [])), (3, (.ptr 3 0, [])), (13, (.v (.bool false), []))], [(2, .cells [.int .i64 0, .str (bs []), .int .i64 0, .sl (List.map GTerm.c [])] [(3, .app 40)]), (3, .cells [.int .i64 c199_.gKind, .str c199_.gName, .int .i64 c199_.gNum, .sl (List.map GTerm.c c199_.gKids)] [])], []⟩ _ (by kernel_rfl) (.cons (len_obl GTerm.c a197_) (.cons (congrArg AV.bool h203) .nil)) ?_
    refine Wc.condF rfl (by kernel_rfl) ?_
    refine Wc.fix (st' := ⟨[(2, (.ptr 2 0, []))], [(2, .cells [.int .i64 0, .str (bs []), .int .i64 0, .sl (List.map GTerm.c [])] [(3, .app 40)])], []⟩) [] [2] [2] [] (by kernel_rfl) ?_
    refine Wc.skip ?_
    refine Wc.seq ?_
    obtain ⟨c202_, h207, h⟩ := obind h
    refine Wc.region [{ r := some (.v (.agg [.int .i64 c202_.gKind, .str c202_.gName, .int .i64 c202_.gNum, .sl (List.map GTerm.c c202_.gKids)]) [(3, .app 40)]) }, { tk := [15] }] [] [2] [2] [] ⟨[(2, (.ptr 2 0, []))], [(2, .cells [.int .i64 c202_.gKind, .str c202_.gName, .int .i64 c202_.gNum, .sl (List.map GTerm.c c202_.gKids)] [(3, .app 40)])], []⟩ _ (by kernel_rfl) (.cons (cimpl_atom h207) .nil) ?_
    refine Wc.fix (st' := ⟨[(2, (.ptr 2 0, []))], [(2, .cells [.int .i64 c202_.gKind, .str c202_.gName, .int .i64 c202_.gNum, .sl (List.map GTerm.c c202_.gKids)] [])], []⟩) [.un (.b 2 3)] [2] [2] [] (by kernel_rfl) ?_
    refine Wc.ret ?_
    obtain rfl := Option.some.inj h
    exact ⟨.inl rfl, by kernel_rfl, by kernel_rfl⟩

def pimpl_renamed_on1_pimpl_copyTerm_1_d_L2 (k : Nat) (rimpl_renamed_on1_pimpl_copyTerm_1_d : GTerm → Option GTerm) (c212_ : GTerm) : Nat → Int → GTerm → Option (Out GTerm GTerm)
  | 0, _, _ => none
  | m + 1, b214_, c215_ =>
    if (decide (b214_ < (c212_.gKids.length : Int))) = true then
      (at' c212_.gKids b214_).bind fun c217_ =>
      (rimpl_renamed_on1_pimpl_copyTerm_1_d c217_).bind fun c218_ =>
      if c215_.gKids.length + [c218_].length ≤ 1073741824 then
        pimpl_renamed_on1_pimpl_copyTerm_1_d_L2 k rimpl_renamed_on1_pimpl_copyTerm_1_d c212_ m (wr.i64 (b214_ + 1)) (GTerm.mk c215_.gKind c215_.gName c215_.gNum (c215_.gKids ++ [c218_]))
      else none
    else
      some (.done c215_)
def pimpl_renamed_on1_pimpl_copyTerm_1_d_J1 (k : Nat) (rimpl_renamed_on1_pimpl_copyTerm_1_d : GTerm → Option GTerm) (c212_ : GTerm) (c213_ : GTerm) : Option GTerm :=
  (pimpl_renamed_on1_pimpl_copyTerm_1_d_L2 k rimpl_renamed_on1_pimpl_copyTerm_1_d c212_ k 0 c213_).bind fun out2 => match out2 with
  | .ret r => some r
  | .done c216_ =>
    some c216_
mutual
/-- impl.renamed -/
def pimpl_renamed_on1_pimpl_copyTerm_1_d : Nat → GTerm → Option GTerm
  | 0, _ => none
  | k + 1, c212_ =>
    if (c212_.gKind == 1) = true then
      (pimpl_copyTerm_1 k c212_.gNum).bind fun b219_ =>
      pimpl_renamed_on1_pimpl_copyTerm_1_d_J1 k (pimpl_renamed_on1_pimpl_copyTerm_1_d k) c212_ (GTerm.mk c212_.gKind c212_.gName b219_ [])
    else
      pimpl_renamed_on1_pimpl_copyTerm_1_d_J1 k (pimpl_renamed_on1_pimpl_copyTerm_1_d k) c212_ (GTerm.mk c212_.gKind c212_.gName c212_.gNum [])
end
theorem all_pimpl_renamed_on1_pimpl_copyTerm_1_d : ∀ k : Nat, (∀ {c212_ : GTerm} {r : GTerm}, pimpl_renamed_on1_pimpl_copyTerm_1_d k c212_ = some r → FnO Try.prog 103 [.v (.agg [.int .i64 c212_.gKind, .str c212_.gName, .int .i64 c212_.gNum, .sl (List.map GTerm.c c212_.gKids)]) [], .v (.func 104 []) []] (.v (.agg [.int .i64 r.gKind, .str r.gName, .int .i64 r.gNum, .slx]) [(3, .ex 40 true (List.map GTerm.c r.gKids))]) []) := by
  intro k
  induction k with
  | zero =>
    · intro c212_ r h
      exact (onone (by rw [pimpl_renamed_on1_pimpl_copyTerm_1_d] at h; exact h)).elim
  | succ k ih =>
    have ih_pimpl_renamed_on1_pimpl_copyTerm_1_d := @ih
    · intro c212_ r h
      rw [pimpl_renamed_on1_pimpl_copyTerm_1_d] at h
      refine FnO.of Try.func103 (rfl : Try.f103.body = some _) (Nat.le_of_ble_eq_true (by kernel_rfl)) (Nat.le_of_ble_eq_true (by kernel_rfl)) ?_
      intro w0 X0 Fin pv0 pb
      refine Wc.seq ?_
      refine Wc.region [] [] [1, 2, 4] [2, 4] [] ⟨[(1, (.v (.func 104 []), [])), (2, (.ptr 2 0, [])), (4, (.ptr 4 0, []))], [(2, .cells [.int .i64 c212_.gKind, .str c212_.gName, .int .i64 c212_.gNum, .sl (List.map GTerm.c c212_.gKids)] []), (4, .cells [.int .i64 0, .str (bs []), .int .i64 0, .sl (List.map GTerm.c [])] [(3, .app 40)])], []⟩ _ (by kernel_rfl) .nil ?_
      refine Wc.seq ?_
      refine Wc.region [] [] [1, 2, 4, 5] [2, 4, 5] [] ⟨[(1, (.v (.func 104 []), [])), (2, (.ptr 2 0, [])), (4, (.ptr 4 0, [])), (5, (.ptr 5 0, []))], [(2, .cells [.int .i64 c212_.gKind, .str c212_.gName, .int .i64 c212_.gNum, .sl (List.map GTerm.c c212_.gKids)] []), (4, .cells [.int .i64 0, .str (bs []), .int .i64 0, .sl (List.map GTerm.c [])] [(3, .app 40)]), (5, .cells [.int .i64 c212_.gKind, .str c212_.gName, .int .i64 c212_.gNum, .sl (List.map GTerm.c c212_.gKids)] [])], []⟩ _ (by kernel_rfl) .nil ?_
      refine Wc.seq ?_
      refine Wc.region [] [] [1, 2, 4, 5] [2, 4, 5] [] ⟨[(1, (.v (.func 104 []), [])), (2, (.ptr 2 0, [])), (4, (.ptr 4 0, [])), (5, (.ptr 5 0, []))], [(2, .cells [.int .i64 c212_.gKind, .str c212_.gName, .int .i64 c212_.gNum, .sl (List.map GTerm.c c212_.gKids)] []), (4, .cells [.int .i64 0, .str (bs []), .int .i64 0, .sl (List.map GTerm.c [])] [(3, .app 40)]), (5, .cells [.int .i64 c212_.gKind, .str c212_.gName, .int .i64 c212_.gNum, .sl (List.map GTerm.c [])] [(3, .app 40)])], []⟩ _ (by kernel_rfl) .nil ?_
      refine Wc.seqJ (fun st => ∃ (c213_ : GTerm), st = ⟨[(1, (.v (.func 104 []), [])), (2, (.ptr 2 0, [])), (4, (.ptr 4 0, [])), (5, (.ptr 5 0, []))], [(2, .cells [.int .i64 c212_.gKind, .str c212_.gName, .int .i64 c212_.gNum, .sl (List.map GTerm.c c212_.gKids)] []), (4, .cells [.int .i64 0, .str (bs []), .int .i64 0, .slx] [(3, .ex 40 true (List.map GTerm.c []))]), (5, .cells [.int .i64 c213_.gKind, .str c213_.gName, .int .i64 c213_.gNum, .slx] [(3, .ex 40 true (List.map GTerm.c c213_.gKids))])], []⟩ ∧ pimpl_renamed_on1_pimpl_copyTerm_1_d_J1 k (pimpl_renamed_on1_pimpl_copyTerm_1_d k) c212_ c213_ = some r) ?_ ?_
      · refine Wc.seq ?_
        refine Wc.region [] [] [1, 2, 4, 5, 12] [2, 4, 5] [] ⟨[(1, (.v (.func 104 []), [])), (2, (.ptr 2 0, [])), (4, (.ptr 4 0, [])), (5, (.ptr 5 0, [])), (12, (.v (.bool (c212_.gKind == 1)), []))], [(2, .cells [.int .i64 c212_.gKind, .str c212_.gName, .int .i64 c212_.gNum, .sl (List.map GTerm.c c212_.gKids)] []), (4, .cells [.int .i64 0, .str (bs []), .int .i64 0, .sl (List.map GTerm.c [])] [(3, .app 40)]), (5, .cells [.int .i64 c212_.gKind, .str c212_.gName, .int .i64 c212_.gNum, .sl (List.map GTerm.c [])] [(3, .app 40)])], []⟩ _ (by kernel_rfl) .nil ?_
        rcases oif h with ⟨h220, h⟩ | ⟨h220, h⟩
        · refine Wc.condT h220 (by kernel_rfl) ?_
          obtain ⟨b219_, h221, h⟩ := obind h
          refine Wc.region [{}, {}, {}, { r := some (.v (.int .i64 b219_) []) }] [.ow (.b 4 3) true, .ow (.b 5 3) true] [1, 2, 4, 5] [2, 4, 5] [] ⟨[(1, (.v (.func 104 []), [])), (2, (.ptr 2 0, [])), (4, (.ptr 4 0, [])), (5, (.ptr 5 0, []))], [(2, .cells [.int .i64 c212_.gKind, .str c212_.gName, .int .i64 c212_.gNum, .sl (List.map GTerm.c c212_.gKids)] []), (4, .cells [.int .i64 0, .str (bs []), .int .i64 0, .slx] [(3, .ex 40 true (List.map GTerm.c []))]), (5, .cells [.int .i64 c212_.gKind, .str c212_.gName, .int .i64 b219_, .slx] [(3, .ex 40 true (List.map GTerm.c []))])], []⟩ _ (by kernel_rfl) (.cons (cimpl_copyTerm_1 h221) .nil) ?_
          exact ⟨_, rfl, h⟩
        · refine Wc.condF h220 (by kernel_rfl) ?_
          refine Wc.fix (st' := ⟨[(1, (.v (.func 104 []), [])), (2, (.ptr 2 0, [])), (4, (.ptr 4 0, [])), (5, (.ptr 5 0, []))], [(2, .cells [.int .i64 c212_.gKind, .str c212_.gName, .int .i64 c212_.gNum, .sl (List.map GTerm.c c212_.gKids)] []), (4, .cells [.int .i64 0, .str (bs []), .int .i64 0, .slx] [(3, .ex 40 true (List.map GTerm.c []))]), (5, .cells [.int .i64 c212_.gKind, .str c212_.gName, .int .i64 c212_.gNum, .slx] [(3, .ex 40 true (List.map GTerm.c []))])], []⟩) [.ow (.b 4 3) true, .ow (.b 5 3) true] [1, 2, 4, 5] [2, 4, 5] [] (by kernel_rfl) ?_
          refine Wc.skip ?_
          exact ⟨_, rfl, h⟩
      · rintro st ⟨c213_, rfl, h⟩
        refine Wc.seq ?_
        refine Wc.seq ?_
        refine Wc.region [{}, {}, { v := some (.int .i64 (c212_.gKids.length : Int)) }] [] [1, 4, 5, 19, 20, 21] [4, 5] [] ⟨[(1, (.v (.func 104 []), [])), (4, (.ptr 4 0, [])), (5, (.ptr 5 0, [])), (19, (.v (.sl (List.map GTerm.c c212_.gKids)), [])), (20, (.v (.int .i64 (c212_.gKids.length : Int)), [])), (21, (.v (.int .i64 0), []))], [(4, .cells [.int .i64 0, .str (bs []), .int .i64 0, .slx] [(3, .ex 40 true (List.map GTerm.c []))]), (5, .cells [.int .i64 c213_.gKind, .str c213_.gName, .int .i64 c213_.gNum, .slx] [(3, .ex 40 true (List.map GTerm.c c213_.gKids))])], []⟩ _ (by kernel_rfl) (.cons (len_obl GTerm.c c212_.gKids) .nil) ?_
        obtain ⟨out2, h215, h⟩ := obind h
        refine Wc.lastJ (fun st => ∃ (c216_ : GTerm), out2 = .done c216_ ∧ st = ⟨[(4, (.ptr 4 0, [])), (5, (.ptr 5 0, []))], [(4, .cells [.int .i64 0, .str (bs []), .int .i64 0, .slx] [(3, .ex 40 true (List.map GTerm.c []))]), (5, .cells [.int .i64 c216_.gKind, .str c216_.gName, .int .i64 c216_.gNum, .slx] [(3, .ex 40 true (List.map GTerm.c c216_.gKids))])], []⟩) ?_ ?_
        · refine Wc.block ?_
          refine Wc.loop (fun m st => ∃ (b214_ : Int) (c215_ : GTerm), st = ⟨[(1, (.v (.func 104 []), [])), (4, (.ptr 4 0, [])), (5, (.ptr 5 0, [])), (19, (.v (.sl (List.map GTerm.c c212_.gKids)), [])), (20, (.v (.int .i64 (c212_.gKids.length : Int)), [])), (21, (.v (.int .i64 b214_), []))], [(4, .cells [.int .i64 0, .str (bs []), .int .i64 0, .slx] [(3, .ex 40 true (List.map GTerm.c []))]), (5, .cells [.int .i64 c215_.gKind, .str c215_.gName, .int .i64 c215_.gNum, .slx] [(3, .ex 40 true (List.map GTerm.c c215_.gKids))])], []⟩ ∧ pimpl_renamed_on1_pimpl_copyTerm_1_d_L2 k (pimpl_renamed_on1_pimpl_copyTerm_1_d k) c212_ m b214_ c215_ = some out2) ?_ k ⟨_, _, rfl, h215⟩
          rintro m st ⟨b214_, c215_, rfl, h215⟩
          cases m with
          | zero => exact (onone h215).elim
          | succ m =>
            refine Wc.seq ?_
            refine Wc.region [] [] [1, 4, 5, 19, 20, 21, 22] [4, 5] [] ⟨[(1, (.v (.func 104 []), [])), (4, (.ptr 4 0, [])), (5, (.ptr 5 0, [])), (19, (.v (.sl (List.map GTerm.c c212_.gKids)), [])), (20, (.v (.int .i64 (c212_.gKids.length : Int)), [])), (21, (.v (.int .i64 b214_), [])), (22, (.v (.bool (decide (b214_ < (c212_.gKids.length : Int)))), []))], [(4, .cells [.int .i64 0, .str (bs []), .int .i64 0, .slx] [(3, .ex 40 true (List.map GTerm.c []))]), (5, .cells [.int .i64 c215_.gKind, .str c215_.gName, .int .i64 c215_.gNum, .slx] [(3, .ex 40 true (List.map GTerm.c c215_.gKids))])], []⟩ _ (by kernel_rfl) .nil ?_
            refine Wc.seq ?_
            rcases oif h215 with ⟨h216, h215⟩ | ⟨h216, h215⟩
            · refine Wc.condT h216 (by kernel_rfl) ?_
              refine Wc.fix (st' := ⟨[(1, (.v (.func 104 []), [])), (4, (.ptr 4 0, [])), (5, (.ptr 5 0, [])), (19, (.v (.sl (List.map GTerm.c c212_.gKids)), [])), (20, (.v (.int .i64 (c212_.gKids.length : Int)), [])), (21, (.v (.int .i64 b214_), []))], [(4, .cells [.int .i64 0, .str (bs []), .int .i64 0, .slx] [(3, .ex 40 true (List.map GTerm.c []))]), (5, .cells [.int .i64 c215_.gKind, .str c215_.gName, .int .i64 c215_.gNum, .slx] [(3, .ex 40 true (List.map GTerm.c c215_.gKids))])], []⟩) [] [1, 4, 5, 19, 20, 21] [4, 5] [] (by kernel_rfl) ?_
              refine Wc.skip ?_
              refine Wc.seq ?_
              refine Wc.block ?_
              refine Wc.seq ?_
              obtain ⟨c217_, h217, h215⟩ := obind h215
              refine Wc.region [{ v := some (.vptr [.int .i64 c217_.gKind, .str c217_.gName, .int .i64 c217_.gNum, .sl (List.map GTerm.c c217_.gKids)]) }] [] [1, 4, 5, 7, 19, 20, 21] [4, 5, 7] [] ⟨[(1, (.v (.func 104 []), [])), (4, (.ptr 4 0, [])), (5, (.ptr 5 0, [])), (7, (.ptr 7 0, [])), (19, (.v (.sl (List.map GTerm.c c212_.gKids)), [])), (20, (.v (.int .i64 (c212_.gKids.length : Int)), [])), (21, (.v (.int .i64 b214_), []))], [(4, .cells [.int .i64 0, .str (bs []), .int .i64 0, .slx] [(3, .ex 40 true (List.map GTerm.c []))]), (5, .cells [.int .i64 c215_.gKind, .str c215_.gName, .int .i64 c215_.gNum, .slx] [(3, .ex 40 true (List.map GTerm.c c215_.gKids))]), (7, .cells [.int .i64 c217_.gKind, .str c217_.gName, .int .i64 c217_.gNum, .sl (List.map GTerm.c c217_.gKids)] [])], []⟩ _ (by kernel_rfl) (.cons (at_obl (c := GTerm.c) (GTerm.c_eq c217_) GTerm.c_len h217) (.cons (len_ok 4 [.int .i64 c217_.gKind, .str c217_.gName, .int .i64 c217_.gNum, .sl (List.map GTerm.c c217_.gKids)]) .nil)) ?_
              obtain ⟨c218_, h218, h215⟩ := obind h215
              obtain ⟨h219, h215⟩ := oguard h215
              refine Wc.draw hmix [{}, { md := 1 }, {}, {}, { r := some (.v (.agg [.int .i64 c218_.gKind, .str c218_.gName, .int .i64 c218_.gNum, .slx]) [(3, .ex 40 true (List.map GTerm.c c218_.gKids))]) }, { c := some (List.map GTerm.c [c218_]), tk := [29], md := 2 }, { c := some (List.map GTerm.c (c215_.gKids ++ [c218_])), tk := [26, 30], md := 2 }, {}, { tk := [31] }] [] [1, 4, 5, 19, 20, 21] [4, 5] [] ⟨[(1, (.v (.func 104 []), [])), (4, (.ptr 4 0, [])), (5, (.ptr 5 0, [])), (19, (.v (.sl (List.map GTerm.c c212_.gKids)), [])), (20, (.v (.int .i64 (c212_.gKids.length : Int)), [])), (21, (.v (.int .i64 b214_), []))], [(4, .cells [.int .i64 0, .str (bs []), .int .i64 0, .slx] [(3, .ex 40 true (List.map GTerm.c []))]), (5, .cells [.int .i64 c215_.gKind, .str c215_.gName, .int .i64 c215_.gNum, .slx] [(3, .ex 40 true (List.map GTerm.c (c215_.gKids ++ [c218_])))])], []⟩ _ (by kernel_rfl) (fun X => by kernel_rfl) (.cons (ih_pimpl_renamed_on1_pimpl_copyTerm_1_d h218) (.cons (cl_cons (c := GTerm.c) (x := c218_) (GTerm.c_eq c218_) (cl_nil GTerm.c)) (.cons (app_re2 GTerm.c c215_.gKids [c218_]) (.cons (app_obl2 (c := GTerm.c) (xs := c215_.gKids) (ys := [c218_]) GTerm.c_len h219) .nil)))) ?_
              refine Wc.region [] [] [1, 4, 5, 19, 20, 21] [4, 5] [] ⟨[(1, (.v (.func 104 []), [])), (4, (.ptr 4 0, [])), (5, (.ptr 5 0, [])), (19, (.v (.sl (List.map GTerm.c c212_.gKids)), [])), (20, (.v (.int .i64 (c212_.gKids.length : Int)), [])), (21, (.v (.int .i64 (wr.i64 (b214_ + 1))), []))], [(4, .cells [.int .i64 0, .str (bs []), .int .i64 0, .slx] [(3, .ex 40 true (List.map GTerm.c []))]), (5, .cells [.int .i64 c215_.gKind, .str c215_.gName, .int .i64 c215_.gNum, .slx] [(3, .ex 40 true (List.map GTerm.c (c215_.gKids ++ [c218_])))])], []⟩ _ (by kernel_rfl) .nil ?_
              exact ⟨_, Nat.lt_succ_self _, _, _, rfl, h215⟩
            · refine Wc.condF h216 (by kernel_rfl) ?_
              refine Wc.fix (st' := ⟨[(4, (.ptr 4 0, [])), (5, (.ptr 5 0, []))], [(4, .cells [.int .i64 0, .str (bs []), .int .i64 0, .slx] [(3, .ex 40 true (List.map GTerm.c []))]), (5, .cells [.int .i64 c215_.gKind, .str c215_.gName, .int .i64 c215_.gNum, .slx] [(3, .ex 40 true (List.map GTerm.c c215_.gKids))])], []⟩) [] [4, 5] [4, 5] [] (by kernel_rfl) ?_
              refine Wc.exit ?_
              obtain rfl := Option.some.inj h215
              exact ⟨_, rfl, rfl⟩
        · rintro st ⟨c216_, rfl, rfl⟩
          refine Wc.seq ?_
          refine Wc.region [{ md := 1 }, { tk := [34] }] [] [4] [4] [] ⟨[(4, (.ptr 4 0, []))], [(4, .cells [.int .i64 c216_.gKind, .str c216_.gName, .int .i64 c216_.gNum, .slx] [(3, .ex 40 true (List.map GTerm.c c216_.gKids))])], []⟩ _ (by kernel_rfl) .nil ?_
          refine Wc.ret ?_
          obtain rfl := Option.some.inj h
          exact ⟨.inl rfl, by kernel_rfl, by kernel_rfl⟩
theorem cimpl_renamed_on1_pimpl_copyTerm_1_d {k : Nat} {c212_ : GTerm} {r : GTerm} (h : pimpl_renamed_on1_pimpl_copyTerm_1_d k c212_ = some r) : FnO Try.prog 103 [.v (.agg [.int .i64 c212_.gKind, .str c212_.gName, .int .i64 c212_.gNum, .sl (List.map GTerm.c c212_.gKids)]) [], .v (.func 104 []) []] (.v (.agg [.int .i64 r.gKind, .str r.gName, .int .i64 r.gNum, .slx]) [(3, .ex 40 true (List.map GTerm.c r.gKids))]) [] := (all_pimpl_renamed_on1_pimpl_copyTerm_1_d k) h

/-- impl.copyTerm -/
def pimpl_copyTerm_d (k : Nat) (c209_ : GTerm) : Option GTerm :=
  (pimpl_renamed_on1_pimpl_copyTerm_1_d k c209_).bind fun c210_ =>
  some c210_
theorem cimpl_copyTerm_d {k : Nat} {c209_ : GTerm} {r : GTerm} (h : pimpl_copyTerm_d k c209_ = some r) : FnO Try.prog 78 [.v (.agg [.int .i64 c209_.gKind, .str c209_.gName, .int .i64 c209_.gNum, .sl (List.map GTerm.c c209_.gKids)]) []] (.v (.agg [.int .i64 r.gKind, .str r.gName, .int .i64 r.gNum, .slx]) [(3, .ex 40 true (List.map GTerm.c r.gKids))]) [] := by
  refine FnO.of Try.func78 (rfl : Try.f78.body = some _) (Nat.le_of_ble_eq_true (by kernel_rfl)) (Nat.le_of_ble_eq_true (by kernel_rfl)) ?_
  intro w0 X0 Fin pv0 pb
  unfold pimpl_copyTerm_d at h
  refine Wc.seq ?_
  refine Wc.region [] [] [1, 2] [1, 2] [] ⟨[(1, (.ptr 1 0, [])), (2, (.ptr 2 0, []))], [(1, .cells [.int .i64 c209_.gKind, .str c209_.gName, .int .i64 c209_.gNum, .sl (List.map GTerm.c c209_.gKids)] []), (2, .cells [.int .i64 0, .str (bs []), .int .i64 0, .sl (List.map GTerm.c [])] [(3, .app 40)])], []⟩ _ (by kernel_rfl) .nil ?_
  refine Wc.seq ?_
  obtain ⟨c210_, h211, h⟩ := obind h
  refine Wc.region [{}, { r := some (.v (.agg [.int .i64 c210_.gKind, .str c210_.gName, .int .i64 c210_.gNum, .slx]) [(3, .ex 40 true (List.map GTerm.c c210_.gKids))]) }, { tk := [4] }] [] [2] [2] [] ⟨[(2, (.ptr 2 0, []))], [(2, .cells [.int .i64 c210_.gKind, .str c210_.gName, .int .i64 c210_.gNum, .slx] [(3, .ex 40 true (List.map GTerm.c c210_.gKids))])], []⟩ _ (by kernel_rfl) (.cons (cimpl_renamed_on1_pimpl_copyTerm_1_d h211) .nil) ?_
  refine Wc.ret ?_
  obtain rfl := Option.some.inj h
  exact ⟨.inl rfl, by kernel_rfl, by kernel_rfl⟩

/-- impl.structure -/
def pimpl_structure_d (k : Nat) (e210_ : ByteArray) (a211_ : List GTerm) : Option GTerm :=
  some (GTerm.mk 4 e210_ 0 a211_)
theorem cimpl_structure_d {k : Nat} {e210_ : ByteArray} {a211_ : List GTerm} {r : GTerm} (h : pimpl_structure_d k e210_ a211_ = some r) : FnO Try.prog 60 [.v (.str e210_) [], .v (.slx) [(0, .ex 40 true (List.map GTerm.c a211_))]] (.v (.agg [.int .i64 r.gKind, .str r.gName, .int .i64 r.gNum, .slx]) [(3, .ex 40 true (List.map GTerm.c r.gKids))]) [] := by
  refine FnO.of Try.func60 (rfl : Try.f60.body = some _) (Nat.le_of_ble_eq_true (by kernel_rfl)) (Nat.le_of_ble_eq_true (by kernel_rfl)) ?_
  intro w0 X0 Fin pv0 pb
  unfold pimpl_structure_d at h
  refine Wc.seq ?_
  refine Wc.region [] [] [0, 1, 4] [4] [] ⟨[(0, (.v (.str e210_), [])), (1, (.v (.slx), [(0, .ex 40 true (List.map GTerm.c a211_))])), (4, (.ptr 4 0, []))], [(4, .cells [.int .i64 0, .str (bs []), .int .i64 0, .sl (List.map GTerm.c [])] [(3, .app 40)])], []⟩ _ (by kernel_rfl) .nil ?_
  refine Wc.seq ?_
  refine Wc.region [{}, { tk := [1] }, { tk := [6] }, { tk := [7] }] [] [4] [4] [] ⟨[(4, (.ptr 4 0, []))], [(4, .cells [.int .i64 4, .str e210_, .int .i64 0, .slx] [(3, .ex 40 true (List.map GTerm.c a211_))])], []⟩ _ (by kernel_rfl) .nil ?_
  refine Wc.ret ?_
  obtain rfl := Option.some.inj h
  exact ⟨.inl rfl, by kernel_rfl, by kernel_rfl⟩

/-- impl.atom -/
def pimpl_atom_d (k : Nat) (e205_ : ByteArray) : Option GTerm :=
  some (GTerm.mk 2 e205_ 0 [])
theorem cimpl_atom_d {k : Nat} {e205_ : ByteArray} {r : GTerm} (h : pimpl_atom_d k e205_ = some r) : FnO Try.prog 59 [.v (.str e205_) []] (.v (.agg [.int .i64 r.gKind, .str r.gName, .int .i64 r.gNum, .slx]) [(3, .ex 40 true (List.map GTerm.c r.gKids))]) [] := by
  refine FnO.of Try.func59 (rfl : Try.f59.body = some _) (Nat.le_of_ble_eq_true (by kernel_rfl)) (Nat.le_of_ble_eq_true (by kernel_rfl)) ?_
  intro w0 X0 Fin pv0 pb
  unfold pimpl_atom_d at h
  refine Wc.seq ?_
  refine Wc.region [] [] [0, 2] [2] [] ⟨[(0, (.v (.str e205_), [])), (2, (.ptr 2 0, []))], [(2, .cells [.int .i64 0, .str (bs []), .int .i64 0, .sl (List.map GTerm.c [])] [(3, .app 40)])], []⟩ _ (by kernel_rfl) .nil ?_
  refine Wc.seq ?_
  refine Wc.region [{}, {}, { tk := [4] }] [] [2] [2] [] ⟨[(2, (.ptr 2 0, []))], [(2, .cells [.int .i64 2, .str e205_, .int .i64 0, .sl (List.map GTerm.c [])] [(3, .app 40)])], []⟩ _ (by kernel_rfl) .nil ?_
  refine Wc.fix (st' := ⟨[(2, (.ptr 2 0, []))], [(2, .cells [.int .i64 2, .str e205_, .int .i64 0, .slx] [(3, .ex 40 true (List.map GTerm.c []))])], []⟩) [.ow (.b 2 3) true] [2] [2] [] (by kernel_rfl) ?_
  refine Wc.ret ?_
  obtain rfl := Option.some.inj h
  exact ⟨.inl rfl, by kernel_rfl, by kernel_rfl⟩

def pimpl_listOf_d_L1 (k : Nat) (a215_ : List GTerm) : Nat → Int → GTerm → Option (Out GTerm GTerm)
  | 0, _, _ => none
  | m + 1, b217_, c218_ =>
    if (decide (b217_ ≥ 0)) = true then
      (at' a215_ b217_).bind fun c220_ =>
      (pimpl_copyTerm_d k c220_).bind fun c221_ =>
      (pimpl_structure_d k (bs [46]) [c221_, c218_]).bind fun c222_ =>
      pimpl_listOf_d_L1 k a215_ m (wr.i64 (b217_ - 1)) c222_
    else
      some (.done c218_)
/-- impl.listOf -/
def pimpl_listOf_d (k : Nat) (a215_ : List GTerm) (c216_ : GTerm) : Option GTerm :=
  (pimpl_listOf_d_L1 k a215_ k (wr.i64 ((a215_.length : Int) - 1)) c216_).bind fun out1 => match out1 with
  | .ret r => some r
  | .done c219_ =>
    some c219_
theorem cimpl_listOf_d {k : Nat} {a215_ : List GTerm} {c216_ : GTerm} {r : GTerm} (h : pimpl_listOf_d k a215_ c216_ = some r) : FnO Try.prog 83 [.v (.sl (List.map GTerm.c a215_)) [], .v (.agg [.int .i64 c216_.gKind, .str c216_.gName, .int .i64 c216_.gNum, .slx]) [(3, .ex 40 true (List.map GTerm.c c216_.gKids))]] (.v (.agg [.int .i64 r.gKind, .str r.gName, .int .i64 r.gNum, .slx]) [(3, .ex 40 true (List.map GTerm.c r.gKids))]) [] := by
  refine FnO.of Try.func83 (rfl : Try.f83.body = some _) (Nat.le_of_ble_eq_true (by kernel_rfl)) (Nat.le_of_ble_eq_true (by kernel_rfl)) ?_
  intro w0 X0 Fin pv0 pb
  unfold pimpl_listOf_d at h
  refine Wc.seq ?_
  refine Wc.region [{ tk := [1] }] [] [0, 3, 4] [3, 4] [] ⟨[(0, (.v (.sl (List.map GTerm.c a215_)), [])), (3, (.ptr 3 0, [])), (4, (.ptr 4 0, []))], [(3, .cells [.int .i64 c216_.gKind, .str c216_.gName, .int .i64 c216_.gNum, .slx] [(3, .ex 40 true (List.map GTerm.c c216_.gKids))]), (4, .cells [.int .i64 0, .str (bs []), .int .i64 0, .sl (List.map GTerm.c [])] [(3, .app 40)])], []⟩ _ (by kernel_rfl) .nil ?_
  refine Wc.seq ?_
  refine Wc.seq ?_
  refine Wc.region [{}, { v := some (.int .i64 (a215_.length : Int)) }] [] [0, 3, 4, 5] [3, 4] [] ⟨[(0, (.v (.sl (List.map GTerm.c a215_)), [])), (3, (.ptr 3 0, [])), (4, (.ptr 4 0, [])), (5, (.v (.int .i64 (wr.i64 ((a215_.length : Int) - 1))), []))], [(3, .cells [.int .i64 c216_.gKind, .str c216_.gName, .int .i64 c216_.gNum, .slx] [(3, .ex 40 true (List.map GTerm.c c216_.gKids))]), (4, .cells [.int .i64 0, .str (bs []), .int .i64 0, .sl (List.map GTerm.c [])] [(3, .app 40)])], []⟩ _ (by kernel_rfl) (.cons (len_obl GTerm.c a215_) .nil) ?_
  obtain ⟨out1, h214, h⟩ := obind h
  refine Wc.lastJ (fun st => ∃ (c219_ : GTerm), out1 = .done c219_ ∧ st = ⟨[(3, (.ptr 3 0, [])), (4, (.ptr 4 0, []))], [(3, .cells [.int .i64 c219_.gKind, .str c219_.gName, .int .i64 c219_.gNum, .slx] [(3, .ex 40 true (List.map GTerm.c c219_.gKids))]), (4, .cells [.int .i64 0, .str (bs []), .int .i64 0, .slx] [(3, .ex 40 true (List.map GTerm.c []))])], []⟩) ?_ ?_
  · refine Wc.block ?_
    refine Wc.fix (st' := ⟨[(0, (.v (.sl (List.map GTerm.c a215_)), [])), (3, (.ptr 3 0, [])), (4, (.ptr 4 0, [])), (5, (.v (.int .i64 (wr.i64 ((a215_.length : Int) - 1))), []))], [(3, .cells [.int .i64 c216_.gKind, .str c216_.gName, .int .i64 c216_.gNum, .slx] [(3, .ex 40 true (List.map GTerm.c c216_.gKids))]), (4, .cells [.int .i64 0, .str (bs []), .int .i64 0, .slx] [(3, .ex 40 true (List.map GTerm.c []))])], []⟩) [.ow (.b 4 3) true] [0, 3, 4, 5] [3, 4] [] (by kernel_rfl) ?_
    refine Wc.loop (fun m st => ∃ (b217_ : Int) (c218_ : GTerm), st = ⟨[(0, (.v (.sl (List.map GTerm.c a215_)), [])), (3, (.ptr 3 0, [])), (4, (.ptr 4 0, [])), (5, (.v (.int .i64 b217_), []))], [(3, .cells [.int .i64 c218_.gKind, .str c218_.gName, .int .i64 c218_.gNum, .slx] [(3, .ex 40 true (List.map GTerm.c c218_.gKids))]), (4, .cells [.int .i64 0, .str (bs []), .int .i64 0, .slx] [(3, .ex 40 true (List.map GTerm.c []))])], []⟩ ∧ pimpl_listOf_d_L1 k a215_ m b217_ c218_ = some out1) ?_ k ⟨_, _, rfl, h214⟩
    rintro m st ⟨b217_, c218_, rfl, h214⟩
    cases m with
    | zero => exact (onone h214).elim
    | succ m =>
      refine Wc.seq ?_
      refine Wc.seq ?_
      refine Wc.region [] [] [0, 3, 4, 5, 10] [3, 4] [] ⟨[(0, (.v (.sl (List.map GTerm.c a215_)), [])), (3, (.ptr 3 0, [])), (4, (.ptr 4 0, [])), (5, (.v (.int .i64 b217_), [])), (10, (.v (.bool (decide (b217_ ≥ 0))), []))], [(3, .cells [.int .i64 c218_.gKind, .str c218_.gName, .int .i64 c218_.gNum, .slx] [(3, .ex 40 true (List.map GTerm.c c218_.gKids))]), (4, .cells [.int .i64 0, .str (bs []), .int .i64 0, .slx] [(3, .ex 40 true (List.map GTerm.c []))])], []⟩ _ (by kernel_rfl) .nil ?_
      rcases oif h214 with ⟨h215, h214⟩ | ⟨h215, h214⟩
      · refine Wc.condT h215 (by kernel_rfl) ?_
        refine Wc.fix (st' := ⟨[(0, (.v (.sl (List.map GTerm.c a215_)), [])), (3, (.ptr 3 0, [])), (4, (.ptr 4 0, [])), (5, (.v (.int .i64 b217_), []))], [(3, .cells [.int .i64 c218_.gKind, .str c218_.gName, .int .i64 c218_.gNum, .slx] [(3, .ex 40 true (List.map GTerm.c c218_.gKids))]), (4, .cells [.int .i64 0, .str (bs []), .int .i64 0, .slx] [(3, .ex 40 true (List.map GTerm.c []))])], []⟩) [] [0, 3, 4, 5] [3, 4] [] (by kernel_rfl) ?_
        refine Wc.skip ?_
        refine Wc.seq ?_
        refine Wc.block ?_
        obtain ⟨c220_, h216, h214⟩ := obind h214
        obtain ⟨c221_, h217, h214⟩ := obind h214
        obtain ⟨c222_, h218, h214⟩ := obind h214
        refine Wc.draw hmix [{}, {}, { v := some (.vptr [.int .i64 c220_.gKind, .str c220_.gName, .int .i64 c220_.gNum, .sl (List.map GTerm.c c220_.gKids)]) }, {}, { r := some (.v (.agg [.int .i64 c221_.gKind, .str c221_.gName, .int .i64 c221_.gNum, .slx]) [(3, .ex 40 true (List.map GTerm.c c221_.gKids))]) }, { md := 1 }, { c := some (List.map GTerm.c [c221_, c218_]), tk := [17, 18], md := 2 }, { tk := [19], r := some (.v (.agg [.int .i64 c222_.gKind, .str c222_.gName, .int .i64 c222_.gNum, .slx]) [(3, .ex 40 true (List.map GTerm.c c222_.gKids))]) }, { tk := [20] }] [] [0, 3, 4, 5] [3, 4] [] ⟨[(0, (.v (.sl (List.map GTerm.c a215_)), [])), (3, (.ptr 3 0, [])), (4, (.ptr 4 0, [])), (5, (.v (.int .i64 b217_), []))], [(3, .cells [.int .i64 c222_.gKind, .str c222_.gName, .int .i64 c222_.gNum, .slx] [(3, .ex 40 true (List.map GTerm.c c222_.gKids))]), (4, .cells [.int .i64 0, .str (bs []), .int .i64 0, .slx] [(3, .ex 40 true (List.map GTerm.c []))])], []⟩ _ (by kernel_rfl) (fun X => by kernel_rfl) (.cons (at_obl (c := GTerm.c) (GTerm.c_eq c220_) GTerm.c_len h216) (.cons (len_ok 4 [.int .i64 c220_.gKind, .str c220_.gName, .int .i64 c220_.gNum, .sl (List.map GTerm.c c220_.gKids)]) (.cons (cimpl_copyTerm_d h217) (.cons (cl_cons (c := GTerm.c) (x := c221_) (GTerm.c_eq c221_) (cl_cons (c := GTerm.c) (x := c218_) (GTerm.c_eq c218_) (cl_nil GTerm.c))) (.cons (cimpl_structure_d h218) .nil))))) ?_
        refine Wc.region [] [] [0, 3, 4, 5] [3, 4] [] ⟨[(0, (.v (.sl (List.map GTerm.c a215_)), [])), (3, (.ptr 3 0, [])), (4, (.ptr 4 0, [])), (5, (.v (.int .i64 (wr.i64 (b217_ - 1))), []))], [(3, .cells [.int .i64 c222_.gKind, .str c222_.gName, .int .i64 c222_.gNum, .slx] [(3, .ex 40 true (List.map GTerm.c c222_.gKids))]), (4, .cells [.int .i64 0, .str (bs []), .int .i64 0, .slx] [(3, .ex 40 true (List.map GTerm.c []))])], []⟩ _ (by kernel_rfl) .nil ?_
        exact ⟨_, Nat.lt_succ_self _, _, _, rfl, h214⟩
      · refine Wc.condF h215 (by kernel_rfl) ?_
        refine Wc.fix (st' := ⟨[(3, (.ptr 3 0, [])), (4, (.ptr 4 0, []))], [(3, .cells [.int .i64 c218_.gKind, .str c218_.gName, .int .i64 c218_.gNum, .slx] [(3, .ex 40 true (List.map GTerm.c c218_.gKids))]), (4, .cells [.int .i64 0, .str (bs []), .int .i64 0, .slx] [(3, .ex 40 true (List.map GTerm.c []))])], []⟩) [] [3, 4] [3, 4] [] (by kernel_rfl) ?_
        refine Wc.exit ?_
        obtain rfl := Option.some.inj h214
        exact ⟨_, rfl, rfl⟩
  · rintro st ⟨c219_, rfl, rfl⟩
    refine Wc.seq ?_
    refine Wc.region [{ md := 1 }, { tk := [21] }] [] [4] [4] [] ⟨[(4, (.ptr 4 0, []))], [(4, .cells [.int .i64 c219_.gKind, .str c219_.gName, .int .i64 c219_.gNum, .slx] [(3, .ex 40 true (List.map GTerm.c c219_.gKids))])], []⟩ _ (by kernel_rfl) .nil ?_
    refine Wc.ret ?_
    obtain rfl := Option.some.inj h
    exact ⟨.inl rfl, by kernel_rfl, by kernel_rfl⟩
end Go.Proofs.Ytjgagbajgdmocaa

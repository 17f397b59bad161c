/- What the functions do, part 1. -/
import Derived.Test.YtbfkmgenokhkgaaTy
set_option linter.unusedVariables false
set_option linter.unusedSimpArgs false
namespace Go.Proofs.Ytbfkmgenokhkgaa
open Go.RowKit Go.Bv
def plaws_eqTermS_L1 (k : Nat) (rlaws_eqTerm : GTerm → GTerm → Option Bool) (rlaws_eqTermS : (List GTerm) → (List GTerm) → Option Bool) (a4_ : List GTerm) (a5_ : List GTerm) : Nat → Int → Option (Out Bool Unit)
  | 0, _ => none
  | m + 1, b6_ =>
    if (decide (b6_ < (a4_.length : Int))) = true then
      (at' a4_ b6_).bind fun c7_ =>
      (at' a5_ b6_).bind fun c8_ =>
      (rlaws_eqTerm c7_ c8_).bind fun d9_ =>
      if (!d9_) = true then
        some (.ret false)
      else
        plaws_eqTermS_L1 k rlaws_eqTerm rlaws_eqTermS a4_ a5_ m (wr.i64 (b6_ + 1))
    else
      some (.done ())
mutual
/-- laws.eqTerm -/
def plaws_eqTerm : Nat → GTerm → GTerm → Option Bool
  | 0, _, _ => none
  | k + 1, c1_, c2_ =>
    if (c1_.gKind != c2_.gKind) = true then
      some false
    else
      if (!(sEq c1_.gName c2_.gName)) = true then
        some false
      else
        if (c1_.gNum != c2_.gNum) = true then
          some false
        else
          (plaws_eqTermS k c1_.gKids c2_.gKids).bind fun d3_ =>
          if (!d3_) = true then
            some false
          else
            some true
/-- laws.eqTermS -/
def plaws_eqTermS : Nat → (List GTerm) → (List GTerm) → Option Bool
  | 0, _, _ => none
  | k + 1, a4_, a5_ =>
    if ((a4_.length : Int) != (a5_.length : Int)) = true then
      some false
    else
      (plaws_eqTermS_L1 k (plaws_eqTerm k) (plaws_eqTermS k) a4_ a5_ k 0).bind fun out1 => match out1 with
      | .ret r => some r
      | .done () =>
        some true
end
theorem all_plaws_eqTerm : ∀ k : Nat, (∀ {c1_ : GTerm} {c2_ : GTerm} {r : Bool}, plaws_eqTerm k c1_ c2_ = some r → FnO Try.prog 20 [.v (.agg [.int .i64 c1_.gKind, .str c1_.gName, .int .i64 c1_.gNum, .sl (List.map GTerm.c c1_.gKids)]) [], .v (.agg [.int .i64 c2_.gKind, .str c2_.gName, .int .i64 c2_.gNum, .sl (List.map GTerm.c c2_.gKids)]) []] (.v (.bool r) []) []) ∧
    (∀ {a4_ : List GTerm} {a5_ : List GTerm} {r : Bool}, plaws_eqTermS k a4_ a5_ = some r → FnO Try.prog 60 [.v (.sl (List.map GTerm.c a4_)) [], .v (.sl (List.map GTerm.c a5_)) []] (.v (.bool r) []) []) := by
  intro k
  induction k with
  | zero =>
    refine ⟨?_, ?_⟩
    · intro c1_ c2_ r h
      exact (onone (by rw [plaws_eqTerm] at h; exact h)).elim
    · intro a4_ a5_ r h
      exact (onone (by rw [plaws_eqTermS] at h; exact h)).elim
  | succ k ih =>
    obtain ⟨ih_plaws_eqTerm, ih_plaws_eqTermS⟩ := ih
    refine ⟨?_, ?_⟩
    · intro c1_ c2_ r h
      rw [plaws_eqTerm] at h
      refine FnO.of Try.func20 (rfl : Try.f20.body = some _) (Nat.le_of_ble_eq_true (by kernel_rfl)) (Nat.le_of_ble_eq_true (by kernel_rfl)) ?_
      intro w0 X0 Fin pv0 pb
      refine Wc.seq ?_
      refine Wc.region [] [] [2, 3] [2, 3] [] ⟨[(2, (.ptr 2 0, [])), (3, (.ptr 3 0, []))], [(2, .cells [.int .i64 c1_.gKind, .str c1_.gName, .int .i64 c1_.gNum, .sl (List.map GTerm.c c1_.gKids)] []), (3, .cells [.int .i64 c2_.gKind, .str c2_.gName, .int .i64 c2_.gNum, .sl (List.map GTerm.c c2_.gKids)] [])], []⟩ _ (by kernel_rfl) .nil ?_
      refine Wc.seq ?_
      refine Wc.seq ?_
      refine Wc.region [] [] [2, 3, 9] [2, 3] [] ⟨[(2, (.ptr 2 0, [])), (3, (.ptr 3 0, [])), (9, (.v (.bool (c1_.gKind != c2_.gKind)), []))], [(2, .cells [.int .i64 c1_.gKind, .str c1_.gName, .int .i64 c1_.gNum, .sl (List.map GTerm.c c1_.gKids)] []), (3, .cells [.int .i64 c2_.gKind, .str c2_.gName, .int .i64 c2_.gNum, .sl (List.map GTerm.c c2_.gKids)] [])], []⟩ _ (by kernel_rfl) .nil ?_
      rcases oif h with ⟨h1, h⟩ | ⟨h1, h⟩
      · refine Wc.condT h1 (by kernel_rfl) ?_
        refine Wc.seq ?_
        refine Wc.region [] [] [4] [] [] ⟨[(4, (.v (.bool false), []))], [], []⟩ _ (by kernel_rfl) .nil ?_
        refine Wc.ret ?_
        obtain rfl := Option.some.inj h
        exact ⟨.inl rfl, by kernel_rfl, by kernel_rfl⟩
      · refine Wc.condF h1 (by kernel_rfl) ?_
        refine Wc.fix (st' := ⟨[(2, (.ptr 2 0, [])), (3, (.ptr 3 0, []))], [(2, .cells [.int .i64 c1_.gKind, .str c1_.gName, .int .i64 c1_.gNum, .sl (List.map GTerm.c c1_.gKids)] []), (3, .cells [.int .i64 c2_.gKind, .str c2_.gName, .int .i64 c2_.gNum, .sl (List.map GTerm.c c2_.gKids)] [])], []⟩) [] [2, 3] [2, 3] [] (by kernel_rfl) ?_
        refine Wc.skip ?_
        refine Wc.seq ?_
        refine Wc.seq ?_
        refine Wc.region [] [] [2, 3, 14] [2, 3] [] ⟨[(2, (.ptr 2 0, [])), (3, (.ptr 3 0, [])), (14, (.v (.bool (!(sEq c1_.gName c2_.gName))), []))], [(2, .cells [.int .i64 c1_.gKind, .str c1_.gName, .int .i64 c1_.gNum, .sl (List.map GTerm.c c1_.gKids)] []), (3, .cells [.int .i64 c2_.gKind, .str c2_.gName, .int .i64 c2_.gNum, .sl (List.map GTerm.c c2_.gKids)] [])], []⟩ _ (by kernel_rfl) .nil ?_
        rcases oif h with ⟨h2, h⟩ | ⟨h2, h⟩
        · refine Wc.condT h2 (by kernel_rfl) ?_
          refine Wc.seq ?_
          refine Wc.region [] [] [4] [] [] ⟨[(4, (.v (.bool false), []))], [], []⟩ _ (by kernel_rfl) .nil ?_
          refine Wc.ret ?_
          obtain rfl := Option.some.inj h
          exact ⟨.inl rfl, by kernel_rfl, by kernel_rfl⟩
        · refine Wc.condF h2 (by kernel_rfl) ?_
          refine Wc.fix (st' := ⟨[(2, (.ptr 2 0, [])), (3, (.ptr 3 0, []))], [(2, .cells [.int .i64 c1_.gKind, .str c1_.gName, .int .i64 c1_.gNum, .sl (List.map GTerm.c c1_.gKids)] []), (3, .cells [.int .i64 c2_.gKind, .str c2_.gName, .int .i64 c2_.gNum, .sl (List.map GTerm.c c2_.gKids)] [])], []⟩) [] [2, 3] [2, 3] [] (by kernel_rfl) ?_
          refine Wc.skip ?_
          refine Wc.seq ?_
          refine Wc.seq ?_
          refine Wc.region [] [] [2, 3, 19] [2, 3] [] ⟨[(2, (.ptr 2 0, [])), (3, (.ptr 3 0, [])), (19, (.v (.bool (c1_.gNum != c2_.gNum)), []))], [(2, .cells [.int .i64 c1_.gKind, .str c1_.gName, .int .i64 c1_.gNum, .sl (List.map GTerm.c c1_.gKids)] []), (3, .cells [.int .i64 c2_.gKind, .str c2_.gName, .int .i64 c2_.gNum, .sl (List.map GTerm.c c2_.gKids)] [])], []⟩ _ (by kernel_rfl) .nil ?_
          rcases oif h with ⟨h3, h⟩ | ⟨h3, h⟩
          · refine Wc.condT h3 (by kernel_rfl) ?_
            refine Wc.seq ?_
            refine Wc.region [] [] [4] [] [] ⟨[(4, (.v (.bool false), []))], [], []⟩ _ (by kernel_rfl) .nil ?_
            refine Wc.ret ?_
            obtain rfl := Option.some.inj h
            exact ⟨.inl rfl, by kernel_rfl, by kernel_rfl⟩
          · refine Wc.condF h3 (by kernel_rfl) ?_
            refine Wc.fix (st' := ⟨[(2, (.ptr 2 0, [])), (3, (.ptr 3 0, []))], [(2, .cells [.int .i64 c1_.gKind, .str c1_.gName, .int .i64 c1_.gNum, .sl (List.map GTerm.c c1_.gKids)] []), (3, .cells [.int .i64 c2_.gKind, .str c2_.gName, .int .i64 c2_.gNum, .sl (List.map GTerm.c c2_.gKids)] [])], []⟩) [] [2, 3] [2, 3] [] (by kernel_rfl) ?_
            refine Wc.skip ?_
            refine Wc.seq ?_
            refine Wc.seq ?_
            obtain ⟨d3_, h4, h⟩ := obind h
            refine Wc.region [{}, {}, {}, {}, { r := some (.v (.bool d3_) []) }] [] [25] [] [] ⟨[(25, (.v (.bool (!d3_)), []))], [], []⟩ _ (by kernel_rfl) (.cons (ih_plaws_eqTermS h4) .nil) ?_
            rcases oif h with ⟨h5, h⟩ | ⟨h5, h⟩
            · refine Wc.condT h5 (by kernel_rfl) ?_
              refine Wc.seq ?_
              refine Wc.region [] [] [4] [] [] ⟨[(4, (.v (.bool false), []))], [], []⟩ _ (by kernel_rfl) .nil ?_
              refine Wc.ret ?_
              obtain rfl := Option.some.inj h
              exact ⟨.inl rfl, by kernel_rfl, by kernel_rfl⟩
            · refine Wc.condF h5 (by kernel_rfl) ?_
              refine Wc.fix (st' := ⟨[], [], []⟩) [] [] [] [] (by kernel_rfl) ?_
              refine Wc.skip ?_
              refine Wc.seq ?_
              refine Wc.region [] [] [4] [] [] ⟨[(4, (.v (.bool true), []))], [], []⟩ _ (by kernel_rfl) .nil ?_
              refine Wc.ret ?_
              obtain rfl := Option.some.inj h
              exact ⟨.inl rfl, by kernel_rfl, by kernel_rfl⟩
    · intro a4_ a5_ r h
      rw [plaws_eqTermS] at h
      refine FnO.of Try.func60 (rfl : Try.f60.body = some _) (Nat.le_of_ble_eq_true (by kernel_rfl)) (Nat.le_of_ble_eq_true (by kernel_rfl)) ?_
      intro w0 X0 Fin pv0 pb
      refine Wc.seq ?_
      refine Wc.region [] [] [0, 1] [] [] ⟨[(0, (.v (.sl (List.map GTerm.c a4_)), [])), (1, (.v (.sl (List.map GTerm.c a5_)), []))], [], []⟩ _ (by kernel_rfl) .nil ?_
      refine Wc.seq ?_
      refine Wc.seq ?_
      refine Wc.region [{}, { v := some (.int .i64 (a4_.length : Int)) }, {}, { v := some (.int .i64 (a5_.length : Int)) }] [] [0, 1, 10] [] [] ⟨[(0, (.v (.sl (List.map GTerm.c a4_)), [])), (1, (.v (.sl (List.map GTerm.c a5_)), [])), (10, (.v (.bool ((a4_.length : Int) != (a5_.length : Int))), []))], [], []⟩ _ (by kernel_rfl) (.cons (len_obl GTerm.c a4_) (.cons (len_obl GTerm.c a5_) .nil)) ?_
      rcases oif h with ⟨h6, h⟩ | ⟨h6, h⟩
      · refine Wc.condT h6 (by kernel_rfl) ?_
        refine Wc.seq ?_
        refine Wc.region [] [] [4] [] [] ⟨[(4, (.v (.bool false), []))], [], []⟩ _ (by kernel_rfl) .nil ?_
        refine Wc.ret ?_
        obtain rfl := Option.some.inj h
        exact ⟨.inl rfl, by kernel_rfl, by kernel_rfl⟩
      · refine Wc.condF h6 (by kernel_rfl) ?_
        refine Wc.fix (st' := ⟨[(0, (.v (.sl (List.map GTerm.c a4_)), [])), (1, (.v (.sl (List.map GTerm.c a5_)), []))], [], []⟩) [] [0, 1] [] [] (by kernel_rfl) ?_
        refine Wc.skip ?_
        refine Wc.seq ?_
        refine Wc.seq ?_
        refine Wc.region [] [] [0, 1, 5] [] [] ⟨[(0, (.v (.sl (List.map GTerm.c a4_)), [])), (1, (.v (.sl (List.map GTerm.c a5_)), [])), (5, (.v (.int .i64 0), []))], [], []⟩ _ (by kernel_rfl) .nil ?_
        obtain ⟨out1, h7, h⟩ := obind h
        refine Wc.lastJ (fun st => out1 = .done () ∧ st = ⟨[], [], []⟩) ?_ ?_
        · refine Wc.block ?_
          refine Wc.loop (fun m st => ∃ (b6_ : Int), st = ⟨[(0, (.v (.sl (List.map GTerm.c a4_)), [])), (1, (.v (.sl (List.map GTerm.c a5_)), [])), (5, (.v (.int .i64 b6_), []))], [], []⟩ ∧ plaws_eqTermS_L1 k (plaws_eqTerm k) (plaws_eqTermS k) a4_ a5_ m b6_ = some out1) ?_ k ⟨_, rfl, h7⟩
          rintro m st ⟨b6_, rfl, h7⟩
          cases m with
          | zero => exact (onone h7).elim
          | succ m =>
            refine Wc.seq ?_
            refine Wc.seq ?_
            refine Wc.region [{}, {}, { v := some (.int .i64 (a4_.length : Int)) }] [] [0, 1, 5, 14] [] [] ⟨[(0, (.v (.sl (List.map GTerm.c a4_)), [])), (1, (.v (.sl (List.map GTerm.c a5_)), [])), (5, (.v (.int .i64 b6_), [])), (14, (.v (.bool (decide (b6_ < (a4_.length : Int)))), []))], [], []⟩ _ (by kernel_rfl) (.cons (len_obl GTerm.c a4_) .nil) ?_
            rcases oif h7 with ⟨h8, h7⟩ | ⟨h8, h7⟩
            · refine Wc.condT h8 (by kernel_rfl) ?_
              refine Wc.fix (st' := ⟨[(0, (.v (.sl (List.map GTerm.c a4_)), [])), (1, (.v (.sl (List.map GTerm.c a5_)), [])), (5, (.v (.int .i64 b6_), []))], [], []⟩) [] [0, 1, 5] [] [] (by kernel_rfl) ?_
              refine Wc.skip ?_
              refine Wc.seq ?_
              refine Wc.block ?_
              refine Wc.seq ?_
              obtain ⟨c7_, h9, h7⟩ := obind h7
              obtain ⟨c8_, h10, h7⟩ := obind h7
              obtain ⟨d9_, h11, h7⟩ := obind h7
              refine Wc.draw hmix [{}, {}, { v := some (.vptr [.int .i64 c7_.gKind, .str c7_.gName, .int .i64 c7_.gNum, .sl (List.map GTerm.c c7_.gKids)]) }, {}, {}, {}, { v := some (.vptr [.int .i64 c8_.gKind, .str c8_.gName, .int .i64 c8_.gNum, .sl (List.map GTerm.c c8_.gKids)]) }, {}, { r := some (.v (.bool d9_) []) }] [] [0, 1, 5, 26] [] [] ⟨[(0, (.v (.sl (List.map GTerm.c a4_)), [])), (1, (.v (.sl (List.map GTerm.c a5_)), [])), (5, (.v (.int .i64 b6_), [])), (26, (.v (.bool (!d9_)), []))], [], []⟩ _ (by kernel_rfl) (fun X => by kernel_rfl) (.cons (at_obl (c := GTerm.c) (GTerm.c_eq c7_) GTerm.c_len h9) (.cons (len_ok 4 [.int .i64 c7_.gKind, .str c7_.gName, .int .i64 c7_.gNum, .sl (List.map GTerm.c c7_.gKids)]) (.cons (at_obl (c := GTerm.c) (GTerm.c_eq c8_) GTerm.c_len h10) (.cons (len_ok 4 [.int .i64 c8_.gKind, .str c8_.gName, .int .i64 c8_.gNum, .sl (List.map GTerm.c c8_.gKids)]) (.cons (ih_plaws_eqTerm h11) .nil))))) ?_
              rcases oif h7 with ⟨h12, h7⟩ | ⟨h12, h7⟩
              · refine Wc.condT h12 (by kernel_rfl) ?_
                refine Wc.seq ?_
                refine Wc.region [] [] [4] [] [] ⟨[(4, (.v (.bool false), []))], [], []⟩ _ (by kernel_rfl) .nil ?_
                refine Wc.ret ?_
                obtain rfl := Option.some.inj h7
                obtain rfl := Option.some.inj h
                exact ⟨.inl rfl, by kernel_rfl, by kernel_rfl⟩
              · refine Wc.condF h12 (by kernel_rfl) ?_
                refine Wc.fix (st' := ⟨[(0, (.v (.sl (List.map GTerm.c a4_)), [])), (1, (.v (.sl (List.map GTerm.c a5_)), [])), (5, (.v (.int .i64 b6_), []))], [], []⟩) [] [0, 1, 5] [] [] (by kernel_rfl) ?_
                refine Wc.skip ?_
                refine Wc.region [] [] [0, 1, 5] [] [] ⟨[(0, (.v (.sl (List.map GTerm.c a4_)), [])), (1, (.v (.sl (List.map GTerm.c a5_)), [])), (5, (.v (.int .i64 (wr.i64 (b6_ + 1))), []))], [], []⟩ _ (by kernel_rfl) .nil ?_
                exact ⟨_, Nat.lt_succ_self _, _, rfl, h7⟩
            · refine Wc.condF h8 (by kernel_rfl) ?_
              refine Wc.fix (st' := ⟨[], [], []⟩) [] [] [] [] (by kernel_rfl) ?_
              refine Wc.exit ?_
              obtain rfl := Option.some.inj h7
              exact ⟨rfl, rfl⟩
        · rintro st ⟨rfl, rfl⟩
          refine Wc.seq ?_
          refine Wc.region [] [] [4] [] [] ⟨[(4, (.v (.bool true), []))], [], []⟩ _ (by kernel_rfl) .nil ?_
          refine Wc.ret ?_
          obtain rfl := Option.some.inj h
          exact ⟨.inl rfl, by kernel_rfl, by kernel_rfl⟩
theorem claws_eqTerm {k : Nat} {c1_ : GTerm} {c2_ : GTerm} {r : Bool} (h : plaws_eqTerm k c1_ c2_ = some r) : FnO Try.prog 20 [.v (.agg [.int .i64 c1_.gKind, .str c1_.gName, .int .i64 c1_.gNum, .sl (List.map GTerm.c c1_.gKids)]) [], .v (.agg [.int .i64 c2_.gKind, .str c2_.gName, .int .i64 c2_.gNum, .sl (List.map GTerm.c c2_.gKids)]) []] (.v (.bool r) []) [] := (all_plaws_eqTerm k).1 h
theorem claws_eqTermS {k : Nat} {a4_ : List GTerm} {a5_ : List GTerm} {r : Bool} (h : plaws_eqTermS k a4_ a5_ = some r) : FnO Try.prog 60 [.v (.sl (List.map GTerm.c a4_)) [], .v (.sl (List.map GTerm.c a5_)) []] (.v (.bool r) []) [] := (all_plaws_eqTerm k).2 h

def plaws_markText_L1 (k : Nat) : Nat → Int → ByteArray → Option (Out ByteArray ByteArray)
  | 0, _, _ => none
  | m + 1, b11_, e12_ =>
    if (decide (b11_ > 0)) = true then
      if (10 : Int) ≠ 0 then
        if sumOk (strOfNums [wr.u8 (wr.i64 (48 + (Int.tmod b11_ 10)))]) e12_ then
          if (10 : Int) ≠ 0 then
            plaws_markText_L1 k m (wr.i64 (Int.tdiv b11_ 10)) ((strOfNums [wr.u8 (wr.i64 (48 + (Int.tmod b11_ 10)))]) ++ e12_)
          else none
        else none
      else none
    else
      some (.done e12_)
/-- laws.markText -/
def plaws_markText (k : Nat) (b10_ : Int) : Option ByteArray :=
  if (decide (b10_ ≤ 0)) = true then
    some (bs [109, 48])
  else
    (plaws_markText_L1 k k b10_ (bs [])).bind fun out1 => match out1 with
    | .ret r => some r
    | .done e13_ =>
      if sumOk (bs [109]) e13_ then
        some ((bs [109]) ++ e13_)
      else none
theorem claws_markText {k : Nat} {b10_ : Int} {r : ByteArray} (h : plaws_markText k b10_ = some r) : FnO Try.prog 51 [.v (.int .i64 b10_) []] (.v (.str r) []) [] := by
  refine FnO.of Try.func51 (rfl : Try.f51.body = some _) (Nat.le_of_ble_eq_true (by kernel_rfl)) (Nat.le_of_ble_eq_true (by kernel_rfl)) ?_
  intro w0 X0 Fin pv0 pb
  unfold plaws_markText at h
  refine Wc.seq ?_
  refine Wc.region [] [] [0] [] [] ⟨[(0, (.v (.int .i64 b10_), []))], [], []⟩ _ (by kernel_rfl) .nil ?_
  refine Wc.seq ?_
  refine Wc.seq ?_
  refine Wc.region [] [] [0, 5] [] [] ⟨[(0, (.v (.int .i64 b10_), [])), (5, (.v (.bool (decide (b10_ ≤ 0))), []))], [], []⟩ _ (by kernel_rfl) .nil ?_
  rcases oif h with ⟨h13, h⟩ | ⟨h13, h⟩
  · refine Wc.condT h13 (by kernel_rfl) ?_
    refine Wc.seq ?_
    refine Wc.region [] [] [2] [] [] ⟨[(2, (.v (.str (bs [109, 48])), []))], [], []⟩ _ (by kernel_rfl) .nil ?_
    refine Wc.ret ?_
    obtain rfl := Option.some.inj h
    exact ⟨.inl rfl, by kernel_rfl, by kernel_rfl⟩
  · refine Wc.condF h13 (by kernel_rfl) ?_
    refine Wc.fix (st' := ⟨[(0, (.v (.int .i64 b10_), []))], [], []⟩) [] [0] [] [] (by kernel_rfl) ?_
    refine Wc.skip ?_
    refine Wc.seq ?_
    refine Wc.region [] [] [0, 3] [] [] ⟨[(0, (.v (.int .i64 b10_), [])), (3, (.v (.str (bs [])), []))], [], []⟩ _ (by kernel_rfl) .nil ?_
    obtain ⟨out1, h14, h⟩ := obind h
    refine Wc.seqJ (fun st => ∃ (e13_ : ByteArray), out1 = .done e13_ ∧ st = ⟨[(3, (.v (.str e13_), []))], [], []⟩) ?_ ?_
    · refine Wc.block ?_
      refine Wc.loop (fun m st => ∃ (b11_ : Int) (e12_ : ByteArray), st = ⟨[(0, (.v (.int .i64 b11_), [])), (3, (.v (.str e12_), []))], [], []⟩ ∧ plaws_markText_L1 k m b11_ e12_ = some out1) ?_ k ⟨_, _, rfl, h14⟩
      rintro m st ⟨b11_, e12_, rfl, h14⟩
      cases m with
      | zero => exact (onone h14).elim
      | succ m =>
        refine Wc.seq ?_
        refine Wc.seq ?_
        refine Wc.region [] [] [0, 3, 7] [] [] ⟨[(0, (.v (.int .i64 b11_), [])), (3, (.v (.str e12_), [])), (7, (.v (.bool (decide (b11_ > 0))), []))], [], []⟩ _ (by kernel_rfl) .nil ?_
        rcases oif h14 with ⟨h15, h14⟩ | ⟨h15, h14⟩
        · refine Wc.condT h15 (by kernel_rfl) ?_
          refine Wc.fix (st' := ⟨[(0, (.v (.int .i64 b11_), [])), (3, (.v (.str e12_), []))], [], []⟩) [] [0, 3] [] [] (by kernel_rfl) ?_
          refine Wc.skip ?_
          refine Wc.block ?_
          refine Wc.seq ?_
          obtain ⟨h16, h14⟩ := oguard h14
          obtain ⟨h17, h14⟩ := oguard h14
          refine Wc.region [{}, {}, {}, {}, { c := some (List.map cI.u8 [wr.u8 (wr.i64 (48 + (Int.tmod b11_ 10)))]) }, { v := some (.str (strOfNums [wr.u8 (wr.i64 (48 + (Int.tmod b11_ 10)))])) }] [] [0, 3] [] [] ⟨[(0, (.v (.int .i64 b11_), [])), (3, (.v (.str ((strOfNums [wr.u8 (wr.i64 (48 + (Int.tmod b11_ 10)))]) ++ e12_)), []))], [], []⟩ _ (by kernel_rfl) (.cons h16 (.cons (cl_cons (c := cI.u8) (x := wr.u8 (wr.i64 (48 + (Int.tmod b11_ 10)))) rfl (cl_nil cI.u8)) (.cons (bytes_obl [wr.u8 (wr.i64 (48 + (Int.tmod b11_ 10)))]) (.cons h17 .nil)))) ?_
          obtain ⟨h18, h14⟩ := oguard h14
          refine Wc.region [] [] [0, 3] [] [] ⟨[(0, (.v (.int .i64 (wr.i64 (Int.tdiv b11_ 10))), [])), (3, (.v (.str ((strOfNums [wr.u8 (wr.i64 (48 + (Int.tmod b11_ 10)))]) ++ e12_)), []))], [], []⟩ _ (by kernel_rfl) (.cons h18 .nil) ?_
          exact ⟨_, Nat.lt_succ_self _, _, _, rfl, h14⟩
        · refine Wc.condF h15 (by kernel_rfl) ?_
          refine Wc.fix (st' := ⟨[(3, (.v (.str e12_), []))], [], []⟩) [] [3] [] [] (by kernel_rfl) ?_
          refine Wc.exit ?_
          obtain rfl := Option.some.inj h14
          exact ⟨_, rfl, rfl⟩
    · rintro st ⟨e13_, rfl, rfl⟩
      refine Wc.seq ?_
      obtain ⟨h19, h⟩ := oguard h
      refine Wc.region [] [] [2] [] [] ⟨[(2, (.v (.str ((bs [109]) ++ e13_)), []))], [], []⟩ _ (by kernel_rfl) (.cons h19 .nil) ?_
      refine Wc.ret ?_
      obtain rfl := Option.some.inj h
      exact ⟨.inl rfl, by kernel_rfl, by kernel_rfl⟩

def plaws_markTermS_L1 (k : Nat) (rlaws_markTermS : (List GTerm) → Int → Option ((List GTerm) × Int)) : Nat → Int → Int → (List GTerm) → Option (Out ((List GTerm) × Int) (Int × (List GTerm)))
  | 0, _, _, _ => none
  | m + 1, b16_, b17_, a18_ =>
    if (decide (b17_ < (a18_.length : Int))) = true then
      (at' a18_ b17_).bind fun c21_ =>
      (plaws_markText k (wr.i64 (b16_ + 1))).bind fun e22_ =>
      (at' (a18_.set ((b17_).toNat) (GTerm.mk b16_ c21_.gName c21_.gNum c21_.gKids)) b17_).bind fun c23_ =>
      (at' ((a18_.set ((b17_).toNat) (GTerm.mk b16_ c21_.gName c21_.gNum c21_.gKids)).set ((b17_).toNat) (GTerm.mk c23_.gKind e22_ c23_.gNum c23_.gKids)) b17_).bind fun c24_ =>
      (at' (((a18_.set ((b17_).toNat) (GTerm.mk b16_ c21_.gName c21_.gNum c21_.gKids)).set ((b17_).toNat) (GTerm.mk c23_.gKind e22_ c23_.gNum c23_.gKids)).set ((b17_).toNat) (GTerm.mk c24_.gKind c24_.gName (wr.i64 ((wr.i64 (b16_ + 1)) + 1)) c24_.gKids)) b17_).bind fun c25_ =>
      (rlaws_markTermS c25_.gKids (wr.i64 ((wr.i64 ((wr.i64 (b16_ + 1)) + 1)) + 1))).bind fun f26_ =>
      plaws_markTermS_L1 k rlaws_markTermS m f26_.2 (wr.i64 (b17_ + 1)) ((((a18_.set ((b17_).toNat) (GTerm.mk b16_ c21_.gName c21_.gNum c21_.gKids)).set ((b17_).toNat) (GTerm.mk c23_.gKind e22_ c23_.gNum c23_.gKids)).set ((b17_).toNat) (GTerm.mk c24_.gKind c24_.gName (wr.i64 ((wr.i64 (b16_ + 1)) + 1)) c24_.gKids)).set ((b17_).toNat) (GTerm.mk c25_.gKind c25_.gName c25_.gNum f26_.1))
    else
      some (.done (b16_, a18_))
mutual
/-- laws.markTermS -/
def plaws_markTermS : Nat → (List GTerm) → Int → Option ((List GTerm) × Int)
  | 0, _, _ => none
  | k + 1, a14_, b15_ =>
    (plaws_markTermS_L1 k (plaws_markTermS k) k b15_ 0 a14_).bind fun out1 => match out1 with
    | .ret r => some r
    | .done (b19_, a20_) =>
      some (a20_, b19_)
end
theorem all_plaws_markTermS : ∀ k : Nat, (∀ {a14_ : List GTerm} {b15_ : Int} {r : (List GTerm) × Int}, plaws_markTermS k a14_ b15_ = some r → FnO Try.prog 61 [.io (.slx) [(0, .ex 1000000007 true (List.map GTerm.c a14_))], .v (.int .i64 b15_) []] (.v (.int .i64 r.2) []) [(0, .v .undef [(0, .ex 1000000007 true (List.map GTerm.c r.1))])]) := by
  intro k
  induction k with
  | zero =>
    · intro a14_ b15_ r h
      exact (onone (by rw [plaws_markTermS] at h; exact h)).elim
  | succ k ih =>
    have ih_plaws_markTermS := @ih
    · intro a14_ b15_ r h
      rw [plaws_markTermS] at h
      refine FnO.of Try.func61 (rfl : Try.f61.body = some _) (Nat.le_of_ble_eq_true (by kernel_rfl)) (Nat.le_of_ble_eq_true (by kernel_rfl)) ?_
      intro w0 X0 Fin pv0 pb
      refine Wc.seq ?_
      refine Wc.region [] [] [0, 1] [] [0] ⟨[(0, (.v (.slx), [(0, .al (.a 0 0) [])])), (1, (.v (.int .i64 b15_), []))], [], [(0, [(0, .ex 1000000007 true (List.map GTerm.c a14_))])]⟩ _ (by kernel_rfl) .nil ?_
      refine Wc.seq ?_
      refine Wc.seq ?_
      refine Wc.region [] [] [0, 1, 5] [] [0] ⟨[(0, (.v (.slx), [(0, .al (.a 0 0) [])])), (1, (.v (.int .i64 b15_), [])), (5, (.v (.int .i64 0), []))], [], [(0, [(0, .ex 1000000007 true (List.map GTerm.c a14_))])]⟩ _ (by kernel_rfl) .nil ?_
      obtain ⟨out1, h20, h⟩ := obind h
      refine Wc.lastJ (fun st => ∃ (b19_ : Int) (a20_ : List GTerm), out1 = .done (b19_, a20_) ∧ st = ⟨[(1, (.v (.int .i64 b19_), []))], [], [(0, [(0, .ex 1000000007 true (List.map GTerm.c a20_))])]⟩) ?_ ?_
      · refine Wc.block ?_
        refine Wc.loop (fun m st => ∃ (b16_ : Int) (b17_ : Int) (a18_ : List GTerm), st = ⟨[(0, (.v (.slx), [(0, .al (.a 0 0) [])])), (1, (.v (.int .i64 b16_), [])), (5, (.v (.int .i64 b17_), []))], [], [(0, [(0, .ex 1000000007 true (List.map GTerm.c a18_))])]⟩ ∧ plaws_markTermS_L1 k (plaws_markTermS k) m b16_ b17_ a18_ = some out1) ?_ k ⟨_, _, _, rfl, h20⟩
        rintro m st ⟨b16_, b17_, a18_, rfl, h20⟩
        cases m with
        | zero => exact (onone h20).elim
        | succ m =>
          refine Wc.seq ?_
          refine Wc.seq ?_
          refine Wc.region [{}, {}, { v := some (.int .i64 (a18_.length : Int)) }] [] [0, 1, 5, 9] [] [0] ⟨[(0, (.v (.slx), [(0, .al (.a 0 0) [])])), (1, (.v (.int .i64 b16_), [])), (5, (.v (.int .i64 b17_), [])), (9, (.v (.bool (decide (b17_ < (a18_.length : Int)))), []))], [], [(0, [(0, .ex 1000000007 true (List.map GTerm.c a18_))])]⟩ _ (by kernel_rfl) (.cons (len_obl GTerm.c a18_) .nil) ?_
          rcases oif h20 with ⟨h21, h20⟩ | ⟨h21, h20⟩
          · refine Wc.condT h21 (by kernel_rfl) ?_
            refine Wc.fix (st' := ⟨[(0, (.v (.slx), [(0, .al (.a 0 0) [])])), (1, (.v (.int .i64 b16_), [])), (5, (.v (.int .i64 b17_), []))], [], [(0, [(0, .ex 1000000007 true (List.map GTerm.c a18_))])]⟩) [] [0, 1, 5] [] [0] (by kernel_rfl) ?_
            refine Wc.skip ?_
            refine Wc.seq ?_
            refine Wc.block ?_
            refine Wc.seq ?_
            obtain ⟨c21_, h22, h20⟩ := obind h20
            refine Wc.region [{}, {}, {}, {}, {}, { c := some (List.map GTerm.c (a18_.set ((b17_).toNat) (GTerm.mk b16_ c21_.gName c21_.gNum c21_.gKids))) }] [] [0, 1, 5] [] [0] ⟨[(0, (.v (.slx), [(0, .al (.a 0 0) [])])), (1, (.v (.int .i64 b16_), [])), (5, (.v (.int .i64 b17_), []))], [], [(0, [(0, .ex 1000000007 true (List.map GTerm.c (a18_.set ((b17_).toNat) (GTerm.mk b16_ c21_.gName c21_.gNum c21_.gKids))))])]⟩ _ (by kernel_rfl) (.cons (ix_obl (c := GTerm.c) GTerm.c_len h22) (.cons (mod_obl (off := 0) (new := [.int .i64 b16_]) (c := GTerm.c) (GTerm.c_eq c21_) (GTerm.c_eq (GTerm.mk b16_ c21_.gName c21_.gNum c21_.gKids)) (at'_spec h22).2 rfl) (.cons (st_obl (sz := 4) (off := 0) (s := 1) (c := GTerm.c) (GTerm.c_eq c21_) (at'_spec h22).2 rfl (Nat.le_of_ble_eq_true rfl)) .nil))) ?_
            refine Wc.seq ?_
            refine Wc.region [] [] [0, 1, 5] [] [0] ⟨[(0, (.v (.slx), [(0, .al (.a 0 0) [])])), (1, (.v (.int .i64 (wr.i64 (b16_ + 1))), [])), (5, (.v (.int .i64 b17_), []))], [], [(0, [(0, .ex 1000000007 true (List.map GTerm.c (a18_.set ((b17_).toNat) (GTerm.mk b16_ c21_.gName c21_.gNum c21_.gKids))))])]⟩ _ (by kernel_rfl) .nil ?_
            refine Wc.seq ?_
            obtain ⟨e22_, h23, h20⟩ := obind h20
            obtain ⟨c23_, h24, h20⟩ := obind h20
            refine Wc.region [{}, {}, {}, { r := some (.v (.str e22_) []) }, {}, {}, { c := some (List.map GTerm.c ((a18_.set ((b17_).toNat) (GTerm.mk b16_ c21_.gName c21_.gNum c21_.gKids)).set ((b17_).toNat) (GTerm.mk c23_.gKind e22_ c23_.gNum c23_.gKids))) }] [] [0, 1, 5] [] [0] ⟨[(0, (.v (.slx), [(0, .al (.a 0 0) [])])), (1, (.v (.int .i64 (wr.i64 (b16_ + 1))), [])), (5, (.v (.int .i64 b17_), []))], [], [(0, [(0, .ex 1000000007 true (List.map GTerm.c ((a18_.set ((b17_).toNat) (GTerm.mk b16_ c21_.gName c21_.gNum c21_.gKids)).set ((b17_).toNat) (GTerm.mk c23_.gKind e22_ c23_.gNum c23_.gKids))))])]⟩ _ (by kernel_rfl) (.cons (claws_markText h23) (.cons (ix_obl (c := GTerm.c) GTerm.c_len h24) (.cons (mod_obl (off := 1) (new := [.str e22_]) (c := GTerm.c) (GTerm.c_eq c23_) (GTerm.c_eq (GTerm.mk c23_.gKind e22_ c23_.gNum c23_.gKids)) (at'_spec h24).2 rfl) (.cons (st_obl (sz := 4) (off := 1) (s := 1) (c := GTerm.c) (GTerm.c_eq c23_) (at'_spec h24).2 rfl (Nat.le_of_ble_eq_true rfl)) .nil)))) ?_
            refine Wc.seq ?_
            refine Wc.region [] [] [0, 1, 5] [] [0] ⟨[(0, (.v (.slx), [(0, .al (.a 0 0) [])])), (1, (.v (.int .i64 (wr.i64 ((wr.i64 (b16_ + 1)) + 1))), [])), (5, (.v (.int .i64 b17_), []))], [], [(0, [(0, .ex 1000000007 true (List.map GTerm.c ((a18_.set ((b17_).toNat) (GTerm.mk b16_ c21_.gName c21_.gNum c21_.gKids)).set ((b17_).toNat) (GTerm.mk c23_.gKind e22_ c23_.gNum c23_.gKids))))])]⟩ _ (by kernel_rfl) .nil ?_
            refine Wc.seq ?_
            obtain ⟨c24_, h25, h20⟩ := obind h20
            refine Wc.region [{}, {}, {}, {}, {}, { c := some (List.map GTerm.c (((a18_.set ((b17_).toNat) (GTerm.mk b16_ c21_.gName c21_.gNum c21_.gKids)).set ((b17_).toNat) (GTerm.mk c23_.gKind e22_ c23_.gNum c23_.gKids)).set ((b17_).toNat) (GTerm.mk c24_.gKind c24_.gName (wr.i64 ((wr.i64 (b16_ + 1)) + 1)) c24_.gKids))) }] [] [0, 1, 5] [] [0] ⟨[(0, (.v (.slx), [(0, .al (.a 0 0) [])])), (1, (.v (.int .i64 (wr.i64 ((wr.i64 (b16_ + 1)) + 1))), [])), (5, (.v (.int .i64 b17_), []))], [], [(0, [(0, .ex 1000000007 true (List.map GTerm.c (((a18_.set ((b17_).toNat) (GTerm.mk b16_ c21_.gName c21_.gNum c21_.gKids)).set ((b17_).toNat) (GTerm.mk c23_.gKind e22_ c23_.gNum c23_.gKids)).set ((b17_).toNat) (GTerm.mk c24_.gKind c24_.gName (wr.i64 ((wr.i64 (b16_ + 1)) + 1)) c24_.gKids))))])]⟩ _ (by kernel_rfl) (.cons (ix_obl (c := GTerm.c) GTerm.c_len h25) (.cons (mod_obl (off := 2) (new := [.int .i64 (wr.i64 ((wr.i64 (b16_ + 1)) + 1))]) (c := GTerm.c) (GTerm.c_eq c24_) (GTerm.c_eq (GTerm.mk c24_.gKind c24_.gName (wr.i64 ((wr.i64 (b16_ + 1)) + 1)) c24_.gKids)) (at'_spec h25).2 rfl) (.cons (st_obl (sz := 4) (off := 2) (s := 1) (c := GTerm.c) (GTerm.c_eq c24_) (at'_spec h25).2 rfl (Nat.le_of_ble_eq_true rfl)) .nil))) ?_
            refine Wc.seq ?_
            refine Wc.region [] [] [0, 1, 5] [] [0] ⟨[(0, (.v (.slx), [(0, .al (.a 0 0) [])])), (1, (.v (.int .i64 (wr.i64 ((wr.i64 ((wr.i64 (b16_ + 1)) + 1)) + 1))), [])), (5, (.v (.int .i64 b17_), []))], [], [(0, [(0, .ex 1000000007 true (List.map GTerm.c (((a18_.set ((b17_).toNat) (GTerm.mk b16_ c21_.gName c21_.gNum c21_.gKids)).set ((b17_).toNat) (GTerm.mk c23_.gKind e22_ c23_.gNum c23_.gKids)).set ((b17_).toNat) (GTerm.mk c24_.gKind c24_.gName (wr.i64 ((wr.i64 (b16_ + 1)) + 1)) c24_.gKids))))])]⟩ _ (by kernel_rfl) .nil ?_
            obtain ⟨c25_, h26, h20⟩ := obind h20
            obtain ⟨f26_, h27, h20⟩ := obind h20
            refine Wc.region [{}, {}, {}, {}, { v := some (.slx) }, {}, { c := some (List.map GTerm.c ((((a18_.set ((b17_).toNat) (GTerm.mk b16_ c21_.gName c21_.gNum c21_.gKids)).set ((b17_).toNat) (GTerm.mk c23_.gKind e22_ c23_.gNum c23_.gKids)).set ((b17_).toNat) (GTerm.mk c24_.gKind c24_.gName (wr.i64 ((wr.i64 (b16_ + 1)) + 1)) c24_.gKids)).set ((b17_).toNat) (GTerm.mk c25_.gKind c25_.gName c25_.gNum f26_.1))), io := [0], r := some (.v (.int .i64 f26_.2) []), outs := [(0, .v .undef [(0, .ex 1000000007 true (List.map GTerm.c f26_.1))])], ioc := [(0, .ex 1000000007 true (List.map GTerm.c c25_.gKids))] }] [] [0, 1, 5] [] [0] ⟨[(0, (.v (.slx), [(0, .al (.a 0 0) [])])), (1, (.v (.int .i64 f26_.2), [])), (5, (.v (.int .i64 b17_), []))], [], [(0, [(0, .ex 1000000007 true (List.map GTerm.c ((((a18_.set ((b17_).toNat) (GTerm.mk b16_ c21_.gName c21_.gNum c21_.gKids)).set ((b17_).toNat) (GTerm.mk c23_.gKind e22_ c23_.gNum c23_.gKids)).set ((b17_).toNat) (GTerm.mk c24_.gKind c24_.gName (wr.i64 ((wr.i64 (b16_ + 1)) + 1)) c24_.gKids)).set ((b17_).toNat) (GTerm.mk c25_.gKind c25_.gName c25_.gNum f26_.1))))])]⟩ _ (by kernel_rfl) (.cons (ix_obl (c := GTerm.c) GTerm.c_len h26) (.cons (el_oblD (sz := 4) (off := 3) (s := 1) (ag := false) (v := .slx) (c := GTerm.c) (GTerm.c_eq c25_) (at'_spec h26).2 rfl (Nat.le_of_ble_eq_true rfl) rfl) (.cons (own_obl (own := [(0, .al (.a 0 0) [(((b17_).toNat), 4, 3)])]) (p := .a 0 0) (m := (b17_).toNat) (sz := 4) (off := 3) (js := [0]) rfl) (.cons (seg_obl (sz := 4) (off := 3) (n := [.sl (List.map GTerm.c c25_.gKids)]) (c := GTerm.c) (GTerm.c_eq c25_) (at'_spec h26).2 rfl (Nat.le_of_ble_eq_true rfl) rfl) (.cons (mod_obl (off := 3) (new := [.sl (List.map GTerm.c f26_.1)]) (c := GTerm.c) (GTerm.c_eq c25_) (GTerm.c_eq (GTerm.mk c25_.gKind c25_.gName c25_.gNum f26_.1)) (at'_spec h26).2 rfl) (.cons (FnO.any (args := [.io (.slx) [(0, .ex 1000000007 true (List.map GTerm.c c25_.gKids))], .v (.int .i64 (wr.i64 ((wr.i64 ((wr.i64 (b16_ + 1)) + 1)) + 1))) []]) (ih_plaws_markTermS h27)) .nil)))))) ?_
            refine Wc.region [] [] [0, 1, 5] [] [0] ⟨[(0, (.v (.slx), [(0, .al (.a 0 0) [])])), (1, (.v (.int .i64 f26_.2), [])), (5, (.v (.int .i64 (wr.i64 (b17_ + 1))), []))], [], [(0, [(0, .ex 1000000007 true (List.map GTerm.c ((((a18_.set ((b17_).toNat) (GTerm.mk b16_ c21_.gName c21_.gNum c21_.gKids)).set ((b17_).toNat) (GTerm.mk c23_.gKind e22_ c23_.gNum c23_.gKids)).set ((b17_).toNat) (GTerm.mk c24_.gKind c24_.gName (wr.i64 ((wr.i64 (b16_ + 1)) + 1)) c24_.gKids)).set ((b17_).toNat) (GTerm.mk c25_.gKind c25_.gName c25_.gNum f26_.1))))])]⟩ _ (by kernel_rfl) .nil ?_
            exact ⟨_, Nat.lt_succ_self _, _, _, _, rfl, h20⟩
          · refine Wc.condF h21 (by kernel_rfl) ?_
            refine Wc.fix (st' := ⟨[(1, (.v (.int .i64 b16_), []))], [], [(0, [(0, .ex 1000000007 true (List.map GTerm.c a18_))])]⟩) [] [1] [] [0] (by kernel_rfl) ?_
            refine Wc.exit ?_
            obtain rfl := Option.some.inj h20
            exact ⟨_, _, rfl, rfl⟩
      · rintro st ⟨b19_, a20_, rfl, rfl⟩
        refine Wc.seq ?_
        refine Wc.region [] [] [4] [] [0] ⟨[(4, (.v (.int .i64 b19_), []))], [], [(0, [(0, .ex 1000000007 true (List.map GTerm.c a20_))])]⟩ _ (by kernel_rfl) .nil ?_
        refine Wc.ret ?_
        obtain rfl := Option.some.inj h
        exact ⟨.inl rfl, by kernel_rfl, by kernel_rfl⟩
theorem claws_markTermS {k : Nat} {a14_ : List GTerm} {b15_ : Int} {r : (List GTerm) × Int} (h : plaws_markTermS k a14_ b15_ = some r) : FnO Try.prog 61 [.io (.slx) [(0, .ex 1000000007 true (List.map GTerm.c a14_))], .v (.int .i64 b15_) []] (.v (.int .i64 r.2) []) [(0, .v .undef [(0, .ex 1000000007 true (List.map GTerm.c r.1))])] := (all_plaws_markTermS k) h

/-- laws.markTerm -/
def plaws_markTerm (k : Nat) (c27_ : GTerm) (b28_ : Int) : Option (GTerm × Int) :=
  (plaws_markTermS k c27_.gKids b28_).bind fun f29_ =>
  some (GTerm.mk c27_.gKind c27_.gName c27_.gNum f29_.1, f29_.2)
theorem claws_markTerm {k : Nat} {c27_ : GTerm} {b28_ : Int} {r : GTerm × Int} (h : plaws_markTerm k c27_ b28_ = some r) : FnO Try.prog 21 [.io (.agg [.int .i64 c27_.gKind, .str c27_.gName, .int .i64 c27_.gNum, .slx]) [(3, .ex 1000000007 true (List.map GTerm.c c27_.gKids))], .v (.int .i64 b28_) []] (.v (.int .i64 r.2) []) [(0, .v .undef [(3, .ex 1000000007 true (List.map GTerm.c r.1.gKids))])] := by
  refine FnO.of Try.func21 (rfl : Try.f21.body = some _) (Nat.le_of_ble_eq_true (by kernel_rfl)) (Nat.le_of_ble_eq_true (by kernel_rfl)) ?_
  intro w0 X0 Fin pv0 pb
  unfold plaws_markTerm at h
  refine Wc.seq ?_
  refine Wc.region [] [] [1, 2] [2] [0] ⟨[(1, (.v (.int .i64 b28_), [])), (2, (.ptr 2 0, []))], [(2, .cells [.int .i64 c27_.gKind, .str c27_.gName, .int .i64 c27_.gNum, .slx] [(3, .al (.a 0 3) [])])], [(0, [(3, .ex 1000000007 true (List.map GTerm.c c27_.gKids))])]⟩ _ (by kernel_rfl) .nil ?_
  refine Wc.seq ?_
  obtain ⟨f29_, h28, h⟩ := obind h
  refine Wc.region [{}, {}, {}, { io := [0], r := some (.v (.int .i64 f29_.2) []), outs := [(0, .v .undef [(0, .ex 1000000007 true (List.map GTerm.c f29_.1))])] }] [] [1] [] [0] ⟨[(1, (.v (.int .i64 f29_.2), []))], [], [(0, [(3, .ex 1000000007 true (List.map GTerm.c f29_.1))])]⟩ _ (by kernel_rfl) (.cons (FnO.any (args := [.io (.slx) [(0, .ex 1000000007 true (List.map GTerm.c c27_.gKids))], .v (.int .i64 b28_) []]) (claws_markTermS h28)) .nil) ?_
  refine Wc.seq ?_
  refine Wc.region [] [] [4] [] [0] ⟨[(4, (.v (.int .i64 f29_.2), []))], [], [(0, [(3, .ex 1000000007 true (List.map GTerm.c f29_.1))])]⟩ _ (by kernel_rfl) .nil ?_
  refine Wc.ret ?_
  obtain rfl := Option.some.inj h
  exact ⟨.inl rfl, by kernel_rfl, by kernel_rfl⟩

def plaws_heldTermS_L1 (k : Nat) (rlaws_heldTermS : (List GTerm) → Int → Option Int) (a30_ : List GTerm) : Nat → Int → Int → Option (Out Int Int)
  | 0, _, _ => none
  | m + 1, b32_, b33_ =>
    if (decide (b33_ < (a30_.length : Int))) = true then
      (at' a30_ b33_).bind fun c35_ =>
      if (c35_.gKind != b32_) = true then
        some (.ret (-1))
      else
        (at' a30_ b33_).bind fun c36_ =>
        (plaws_markText k (wr.i64 (b32_ + 1))).bind fun e37_ =>
        if (!(sEq c36_.gName e37_)) = true then
          some (.ret (-1))
        else
          (at' a30_ b33_).bind fun c38_ =>
          if (c38_.gNum != (wr.i64 ((wr.i64 (b32_ + 1)) + 1))) = true then
            some (.ret (-1))
          else
            (at' a30_ b33_).bind fun c39_ =>
            (rlaws_heldTermS c39_.gKids (wr.i64 ((wr.i64 ((wr.i64 (b32_ + 1)) + 1)) + 1))).bind fun b40_ =>
            if (decide (b40_ < 0)) = true then
              some (.ret (-1))
            else
              plaws_heldTermS_L1 k rlaws_heldTermS a30_ m b40_ (wr.i64 (b33_ + 1))
    else
      some (.done b32_)
mutual
/-- laws.heldTermS -/
def plaws_heldTermS : Nat → (List GTerm) → Int → Option Int
  | 0, _, _ => none
  | k + 1, a30_, b31_ =>
    (plaws_heldTermS_L1 k (plaws_heldTermS k) a30_ k b31_ 0).bind fun out1 => match out1 with
    | .ret r => some r
    | .done b34_ =>
      some b34_
end
theorem all_plaws_heldTermS : ∀ k : Nat, (∀ {a30_ : List GTerm} {b31_ : Int} {r : Int}, plaws_heldTermS k a30_ b31_ = some r → FnO Try.prog 62 [.v (.sl (List.map GTerm.c a30_)) [], .v (.int .i64 b31_) []] (.v (.int .i64 r) []) []) := by
  intro k
  induction k with
  | zero =>
    · intro a30_ b31_ r h
      exact (onone (by rw [plaws_heldTermS] at h; exact h)).elim
  | succ k ih =>
    have ih_plaws_heldTermS := @ih
    · intro a30_ b31_ r h
      rw [plaws_heldTermS] at h
      refine FnO.of Try.func62 (rfl : Try.f62.body = some _) (Nat.le_of_ble_eq_true (by kernel_rfl)) (Nat.le_of_ble_eq_true (by kernel_rfl)) ?_
      intro w0 X0 Fin pv0 pb
      refine Wc.seq ?_
      refine Wc.region [] [] [0, 1] [] [] ⟨[(0, (.v (.sl (List.map GTerm.c a30_)), [])), (1, (.v (.int .i64 b31_), []))], [], []⟩ _ (by kernel_rfl) .nil ?_
      refine Wc.seq ?_
      refine Wc.seq ?_
      refine Wc.region [] [] [0, 1, 5] [] [] ⟨[(0, (.v (.sl (List.map GTerm.c a30_)), [])), (1, (.v (.int .i64 b31_), [])), (5, (.v (.int .i64 0), []))], [], []⟩ _ (by kernel_rfl) .nil ?_
      obtain ⟨out1, h29, h⟩ := obind h
      refine Wc.lastJ (fun st => ∃ (b34_ : Int), out1 = .done b34_ ∧ st = ⟨[(1, (.v (.int .i64 b34_), []))], [], []⟩) ?_ ?_
      · refine Wc.block ?_
        refine Wc.loop (fun m st => ∃ (b32_ : Int) (b33_ : Int), st = ⟨[(0, (.v (.sl (List.map GTerm.c a30_)), [])), (1, (.v (.int .i64 b32_), [])), (5, (.v (.int .i64 b33_), []))], [], []⟩ ∧ plaws_heldTermS_L1 k (plaws_heldTermS k) a30_ m b32_ b33_ = some out1) ?_ k ⟨_, _, rfl, h29⟩
        rintro m st ⟨b32_, b33_, rfl, h29⟩
        cases m with
        | zero => exact (onone h29).elim
        | succ m =>
          refine Wc.seq ?_
          refine Wc.seq ?_
          refine Wc.region [{}, {}, { v := some (.int .i64 (a30_.length : Int)) }] [] [0, 1, 5, 9] [] [] ⟨[(0, (.v (.sl (List.map GTerm.c a30_)), [])), (1, (.v (.int .i64 b32_), [])), (5, (.v (.int .i64 b33_), [])), (9, (.v (.bool (decide (b33_ < (a30_.length : Int)))), []))], [], []⟩ _ (by kernel_rfl) (.cons (len_obl GTerm.c a30_) .nil) ?_
          rcases oif h29 with ⟨h30, h29⟩ | ⟨h30, h29⟩
          · refine Wc.condT h30 (by kernel_rfl) ?_
            refine Wc.fix (st' := ⟨[(0, (.v (.sl (List.map GTerm.c a30_)), [])), (1, (.v (.int .i64 b32_), [])), (5, (.v (.int .i64 b33_), []))], [], []⟩) [] [0, 1, 5] [] [] (by kernel_rfl) ?_
            refine Wc.skip ?_
            refine Wc.seq ?_
            refine Wc.block ?_
            refine Wc.seq ?_
            refine Wc.seq ?_
            obtain ⟨c35_, h31, h29⟩ := obind h29
            refine Wc.region [{}, {}, { v := some (.vptr [.int .i64 c35_.gKind, .str c35_.gName, .int .i64 c35_.gNum, .sl (List.map GTerm.c c35_.gKids)]) }] [] [0, 1, 5, 18] [] [] ⟨[(0, (.v (.sl (List.map GTerm.c a30_)), [])), (1, (.v (.int .i64 b32_), [])), (5, (.v (.int .i64 b33_), [])), (18, (.v (.bool (c35_.gKind != b32_)), []))], [], []⟩ _ (by kernel_rfl) (.cons (at_obl (c := GTerm.c) (GTerm.c_eq c35_) GTerm.c_len h31) (.cons (len_ok 1 [.int .i64 c35_.gKind, .str c35_.gName, .int .i64 c35_.gNum, .sl (List.map GTerm.c c35_.gKids)]) .nil)) ?_
            rcases oif h29 with ⟨h32, h29⟩ | ⟨h32, h29⟩
            · refine Wc.condT h32 (by kernel_rfl) ?_
              refine Wc.seq ?_
              refine Wc.region [] [] [4] [] [] ⟨[(4, (.v (.int .i64 (-1)), []))], [], []⟩ _ (by kernel_rfl) .nil ?_
              refine Wc.ret ?_
              obtain rfl := Option.some.inj h29
              obtain rfl := Option.some.inj h
              exact ⟨.inl rfl, by kernel_rfl, by kernel_rfl⟩
            · refine Wc.condF h32 (by kernel_rfl) ?_
              refine Wc.fix (st' := ⟨[(0, (.v (.sl (List.map GTerm.c a30_)), [])), (1, (.v (.int .i64 b32_), [])), (5, (.v (.int .i64 b33_), []))], [], []⟩) [] [0, 1, 5] [] [] (by kernel_rfl) ?_
              refine Wc.skip ?_
              refine Wc.seq ?_
              refine Wc.region [] [] [0, 1, 5] [] [] ⟨[(0, (.v (.sl (List.map GTerm.c a30_)), [])), (1, (.v (.int .i64 (wr.i64 (b32_ + 1))), [])), (5, (.v (.int .i64 b33_), []))], [], []⟩ _ (by kernel_rfl) .nil ?_
              refine Wc.seq ?_
              refine Wc.seq ?_
              obtain ⟨c36_, h33, h29⟩ := obind h29
              obtain ⟨e37_, h34, h29⟩ := obind h29
              refine Wc.draw hmix [{}, {}, { v := some (.vptr [.int .i64 c36_.gKind, .str c36_.gName, .int .i64 c36_.gNum, .sl (List.map GTerm.c c36_.gKids)]) }, {}, {}, {}, { r := some (.v (.str e37_) []) }] [] [0, 1, 5, 28] [] [] ⟨[(0, (.v (.sl (List.map GTerm.c a30_)), [])), (1, (.v (.int .i64 (wr.i64 (b32_ + 1))), [])), (5, (.v (.int .i64 b33_), [])), (28, (.v (.bool (!(sEq c36_.gName e37_))), []))], [], []⟩ _ (by kernel_rfl) (fun X => by kernel_rfl) (.cons (at_obl (c := GTerm.c) (GTerm.c_eq c36_) GTerm.c_len h33) (.cons (len_ok 1 [.str c36_.gName, .int .i64 c36_.gNum, .sl (List.map GTerm.c c36_.gKids)]) (.cons (claws_markText h34) .nil))) ?_
              rcases oif h29 with ⟨h35, h29⟩ | ⟨h35, h29⟩
              · refine Wc.condT h35 (by kernel_rfl) ?_
                refine Wc.seq ?_
                refine Wc.region [] [] [4] [] [] ⟨[(4, (.v (.int .i64 (-1)), []))], [], []⟩ _ (by kernel_rfl) .nil ?_
                refine Wc.ret ?_
                obtain rfl := Option.some.inj h29
                obtain rfl := Option.some.inj h
                exact ⟨.inl rfl, by kernel_rfl, by kernel_rfl⟩
              · refine Wc.condF h35 (by kernel_rfl) ?_
                refine Wc.fix (st' := ⟨[(0, (.v (.sl (List.map GTerm.c a30_)), [])), (1, (.v (.int .i64 (wr.i64 (b32_ + 1))), [])), (5, (.v (.int .i64 b33_), []))], [], []⟩) [] [0, 1, 5] [] [] (by kernel_rfl) ?_
                refine Wc.skip ?_
                refine Wc.seq ?_
                refine Wc.region [] [] [0, 1, 5] [] [] ⟨[(0, (.v (.sl (List.map GTerm.c a30_)), [])), (1, (.v (.int .i64 (wr.i64 ((wr.i64 (b32_ + 1)) + 1))), [])), (5, (.v (.int .i64 b33_), []))], [], []⟩ _ (by kernel_rfl) .nil ?_
                refine Wc.seq ?_
                refine Wc.seq ?_
                obtain ⟨c38_, h36, h29⟩ := obind h29
                refine Wc.region [{}, {}, { v := some (.vptr [.int .i64 c38_.gKind, .str c38_.gName, .int .i64 c38_.gNum, .sl (List.map GTerm.c c38_.gKids)]) }] [] [0, 1, 5, 37] [] [] ⟨[(0, (.v (.sl (List.map GTerm.c a30_)), [])), (1, (.v (.int .i64 (wr.i64 ((wr.i64 (b32_ + 1)) + 1))), [])), (5, (.v (.int .i64 b33_), [])), (37, (.v (.bool (c38_.gNum != (wr.i64 ((wr.i64 (b32_ + 1)) + 1)))), []))], [], []⟩ _ (by kernel_rfl) (.cons (at_obl (c := GTerm.c) (GTerm.c_eq c38_) GTerm.c_len h36) (.cons (len_ok 1 [.int .i64 c38_.gNum, .sl (List.map GTerm.c c38_.gKids)]) .nil)) ?_
                rcases oif h29 with ⟨h37, h29⟩ | ⟨h37, h29⟩
                · refine Wc.condT h37 (by kernel_rfl) ?_
                  refine Wc.seq ?_
                  refine Wc.region [] [] [4] [] [] ⟨[(4, (.v (.int .i64 (-1)), []))], [], []⟩ _ (by kernel_rfl) .nil ?_
                  refine Wc.ret ?_
                  obtain rfl := Option.some.inj h29
                  obtain rfl := Option.some.inj h
                  exact ⟨.inl rfl, by kernel_rfl, by kernel_rfl⟩
                · refine Wc.condF h37 (by kernel_rfl) ?_
                  refine Wc.fix (st' := ⟨[(0, (.v (.sl (List.map GTerm.c a30_)), [])), (1, (.v (.int .i64 (wr.i64 ((wr.i64 (b32_ + 1)) + 1))), [])), (5, (.v (.int .i64 b33_), []))], [], []⟩) [] [0, 1, 5] [] [] (by kernel_rfl) ?_
                  refine Wc.skip ?_
                  refine Wc.seq ?_
                  refine Wc.region [] [] [0, 1, 5] [] [] ⟨[(0, (.v (.sl (List.map GTerm.c a30_)), [])), (1, (.v (.int .i64 (wr.i64 ((wr.i64 ((wr.i64 (b32_ + 1)) + 1)) + 1))), [])), (5, (.v (.int .i64 b33_), []))], [], []⟩ _ (by kernel_rfl) .nil ?_
                  refine Wc.seq ?_
                  obtain ⟨c39_, h38, h29⟩ := obind h29
                  obtain ⟨b40_, h39, h29⟩ := obind h29
                  refine Wc.region [{}, {}, { v := some (.vptr [.int .i64 c39_.gKind, .str c39_.gName, .int .i64 c39_.gNum, .sl (List.map GTerm.c c39_.gKids)]) }, {}, {}, {}, { r := some (.v (.int .i64 b40_) []) }] [] [0, 1, 5] [] [] ⟨[(0, (.v (.sl (List.map GTerm.c a30_)), [])), (1, (.v (.int .i64 b40_), [])), (5, (.v (.int .i64 b33_), []))], [], []⟩ _ (by kernel_rfl) (.cons (at_obl (c := GTerm.c) (GTerm.c_eq c39_) GTerm.c_len h38) (.cons (len_ok 1 [.sl (List.map GTerm.c c39_.gKids)]) (.cons (ih_plaws_heldTermS h39) .nil))) ?_
                  refine Wc.seq ?_
                  refine Wc.region [] [] [0, 1, 5, 48] [] [] ⟨[(0, (.v (.sl (List.map GTerm.c a30_)), [])), (1, (.v (.int .i64 b40_), [])), (5, (.v (.int .i64 b33_), [])), (48, (.v (.bool (decide (b40_ < 0))), []))], [], []⟩ _ (by kernel_rfl) .nil ?_
                  rcases oif h29 with ⟨h40, h29⟩ | ⟨h40, h29⟩
                  · refine Wc.condT h40 (by kernel_rfl) ?_
                    refine Wc.seq ?_
                    refine Wc.region [] [] [4] [] [] ⟨[(4, (.v (.int .i64 (-1)), []))], [], []⟩ _ (by kernel_rfl) .nil ?_
                    refine Wc.ret ?_
                    obtain rfl := Option.some.inj h29
                    obtain rfl := Option.some.inj h
                    exact ⟨.inl rfl, by kernel_rfl, by kernel_rfl⟩
                  · refine Wc.condF h40 (by kernel_rfl) ?_
                    refine Wc.fix (st' := ⟨[(0, (.v (.sl (List.map GTerm.c a30_)), [])), (1, (.v (.int .i64 b40_), [])), (5, (.v (.int .i64 b33_), []))], [], []⟩) [] [0, 1, 5] [] [] (by kernel_rfl) ?_
                    refine Wc.skip ?_
                    refine Wc.region [] [] [0, 1, 5] [] [] ⟨[(0, (.v (.sl (List.map GTerm.c a30_)), [])), (1, (.v (.int .i64 b40_), [])), (5, (.v (.int .i64 (wr.i64 (b33_ + 1))), []))], [], []⟩ _ (by kernel_rfl) .nil ?_
                    exact ⟨_, Nat.lt_succ_self _, _, _, rfl, h29⟩
          · refine Wc.condF h30 (by kernel_rfl) ?_
            refine Wc.fix (st' := ⟨[(1, (.v (.int .i64 b32_), []))], [], []⟩) [] [1] [] [] (by kernel_rfl) ?_
            refine Wc.exit ?_
            obtain rfl := Option.some.inj h29
            exact ⟨_, rfl, rfl⟩
      · rintro st ⟨b34_, rfl, rfl⟩
        refine Wc.seq ?_
        refine Wc.region [] [] [4] [] [] ⟨[(4, (.v (.int .i64 b34_), []))], [], []⟩ _ (by kernel_rfl) .nil ?_
        refine Wc.ret ?_
        obtain rfl := Option.some.inj h
        exact ⟨.inl rfl, by kernel_rfl, by kernel_rfl⟩
theorem claws_heldTermS {k : Nat} {a30_ : List GTerm} {b31_ : Int} {r : Int} (h : plaws_heldTermS k a30_ b31_ = some r) : FnO Try.prog 62 [.v (.sl (List.map GTerm.c a30_)) [], .v (.int .i64 b31_) []] (.v (.int .i64 r) []) [] := (all_plaws_heldTermS k) h

/-- laws.heldTerm -/
def plaws_heldTerm (k : Nat) (c41_ : GTerm) (b42_ : Int) : Option Int :=
  (plaws_heldTermS k c41_.gKids b42_).bind fun b43_ =>
  if (decide (b43_ < 0)) = true then
    some (-1)
  else
    some b43_
theorem claws_heldTerm {k : Nat} {c41_ : GTerm} {b42_ : Int} {r : Int} (h : plaws_heldTerm k c41_ b42_ = some r) : FnO Try.prog 22 [.v (.agg [.int .i64 c41_.gKind, .str c41_.gName, .int .i64 c41_.gNum, .sl (List.map GTerm.c c41_.gKids)]) [], .v (.int .i64 b42_) []] (.v (.int .i64 r) []) [] := by
  refine FnO.of Try.func22 (rfl : Try.f22.body = some _) (Nat.le_of_ble_eq_true (by kernel_rfl)) (Nat.le_of_ble_eq_true (by kernel_rfl)) ?_
  intro w0 X0 Fin pv0 pb
  unfold plaws_heldTerm at h
  refine Wc.seq ?_
  refine Wc.region [] [] [1, 2] [2] [] ⟨[(1, (.v (.int .i64 b42_), [])), (2, (.ptr 2 0, []))], [(2, .cells [.int .i64 c41_.gKind, .str c41_.gName, .int .i64 c41_.gNum, .sl (List.map GTerm.c c41_.gKids)] [])], []⟩ _ (by kernel_rfl) .nil ?_
  refine Wc.seq ?_
  obtain ⟨b43_, h41, h⟩ := obind h
  refine Wc.region [{}, {}, {}, { r := some (.v (.int .i64 b43_) []) }] [] [1] [] [] ⟨[(1, (.v (.int .i64 b43_), []))], [], []⟩ _ (by kernel_rfl) (.cons (claws_heldTermS h41) .nil) ?_
  refine Wc.seq ?_
  refine Wc.seq ?_
  refine Wc.region [] [] [1, 10] [] [] ⟨[(1, (.v (.int .i64 b43_), [])), (10, (.v (.bool (decide (b43_ < 0))), []))], [], []⟩ _ (by kernel_rfl) .nil ?_
  rcases oif h with ⟨h42, h⟩ | ⟨h42, h⟩
  · refine Wc.condT h42 (by kernel_rfl) ?_
    refine Wc.seq ?_
    refine Wc.region [] [] [4] [] [] ⟨[(4, (.v (.int .i64 (-1)), []))], [], []⟩ _ (by kernel_rfl) .nil ?_
    refine Wc.ret ?_
    obtain rfl := Option.some.inj h
    exact ⟨.inl rfl, by kernel_rfl, by kernel_rfl⟩
  · refine Wc.condF h42 (by kernel_rfl) ?_
    refine Wc.fix (st' := ⟨[(1, (.v (.int .i64 b43_), []))], [], []⟩) [] [1] [] [] (by kernel_rfl) ?_
    refine Wc.skip ?_
    refine Wc.seq ?_
    refine Wc.region [] [] [4] [] [] ⟨[(4, (.v (.int .i64 b43_), []))], [], []⟩ _ (by kernel_rfl) .nil ?_
    refine Wc.ret ?_
    obtain rfl := Option.some.inj h
    exact ⟨.inl rfl, by kernel_rfl, by kernel_rfl⟩

/-- laws.szIns -/
def plaws_szIns (k : Nat) (g44_ : GIns) (b45_ : Int) : Option Int :=
  if (decide ((wr.i64 (b45_ - (g44_.gName.size : Int))) < 0)) = true then
    some (-1)
  else
    some (wr.i64 (b45_ - (g44_.gName.size : Int)))
theorem claws_szIns {k : Nat} {g44_ : GIns} {b45_ : Int} {r : Int} (h : plaws_szIns k g44_ b45_ = some r) : FnO Try.prog 63 [.v (.agg [.int .i64 g44_.gOp, .str g44_.gName, .int .i64 g44_.gNum, .int .i64 g44_.gMany]) [], .v (.int .i64 b45_) []] (.v (.int .i64 r) []) [] := by
  refine FnO.of Try.func63 (rfl : Try.f63.body = some _) (Nat.le_of_ble_eq_true (by kernel_rfl)) (Nat.le_of_ble_eq_true (by kernel_rfl)) ?_
  intro w0 X0 Fin pv0 pb
  unfold plaws_szIns at h
  refine Wc.seq ?_
  refine Wc.region [] [] [1, 2] [2] [] ⟨[(1, (.v (.int .i64 b45_), [])), (2, (.ptr 2 0, []))], [(2, .cells [.int .i64 g44_.gOp, .str g44_.gName, .int .i64 g44_.gNum, .int .i64 g44_.gMany] [])], []⟩ _ (by kernel_rfl) .nil ?_
  refine Wc.seq ?_
  refine Wc.region [] [] [1] [] [] ⟨[(1, (.v (.int .i64 (wr.i64 (b45_ - (g44_.gName.size : Int)))), []))], [], []⟩ _ (by kernel_rfl) .nil ?_
  refine Wc.seq ?_
  refine Wc.seq ?_
  refine Wc.region [] [] [1, 11] [] [] ⟨[(1, (.v (.int .i64 (wr.i64 (b45_ - (g44_.gName.size : Int)))), [])), (11, (.v (.bool (decide ((wr.i64 (b45_ - (g44_.gName.size : Int))) < 0))), []))], [], []⟩ _ (by kernel_rfl) .nil ?_
  rcases oif h with ⟨h43, h⟩ | ⟨h43, h⟩
  · refine Wc.condT h43 (by kernel_rfl) ?_
    refine Wc.seq ?_
    refine Wc.region [] [] [4] [] [] ⟨[(4, (.v (.int .i64 (-1)), []))], [], []⟩ _ (by kernel_rfl) .nil ?_
    refine Wc.ret ?_
    obtain rfl := Option.some.inj h
    exact ⟨.inl rfl, by kernel_rfl, by kernel_rfl⟩
  · refine Wc.condF h43 (by kernel_rfl) ?_
    refine Wc.fix (st' := ⟨[(1, (.v (.int .i64 (wr.i64 (b45_ - (g44_.gName.size : Int)))), []))], [], []⟩) [] [1] [] [] (by kernel_rfl) ?_
    refine Wc.skip ?_
    refine Wc.seq ?_
    refine Wc.region [] [] [4] [] [] ⟨[(4, (.v (.int .i64 (wr.i64 (b45_ - (g44_.gName.size : Int)))), []))], [], []⟩ _ (by kernel_rfl) .nil ?_
    refine Wc.ret ?_
    obtain rfl := Option.some.inj h
    exact ⟨.inl rfl, by kernel_rfl, by kernel_rfl⟩

def plaws_szInsS_L1 (k : Nat) (i46_ : List GIns) : Nat → Int → Int → Option (Out Int Int)
  | 0, _, _ => none
  | m + 1, b48_, b49_ =>
    if (decide (b49_ < (i46_.length : Int))) = true then
      (at' i46_ b49_).bind fun g51_ =>
      (plaws_szIns k g51_ b48_).bind fun b52_ =>
      if (decide (b52_ < 0)) = true then
        some (.ret (-1))
      else
        plaws_szInsS_L1 k i46_ m b52_ (wr.i64 (b49_ + 1))
    else
      some (.done b48_)
/-- laws.szInsS -/
def plaws_szInsS (k : Nat) (i46_ : List GIns) (b47_ : Int) : Option Int :=
  if (decide ((wr.i64 (b47_ - (i46_.length : Int))) < 0)) = true then
    some (-1)
  else
    (plaws_szInsS_L1 k i46_ k (wr.i64 (b47_ - (i46_.length : Int))) 0).bind fun out1 => match out1 with
    | .ret r => some r
    | .done b50_ =>
      some b50_
theorem claws_szInsS {k : Nat} {i46_ : List GIns} {b47_ : Int} {r : Int} (h : plaws_szInsS k i46_ b47_ = some r) : FnO Try.prog 23 [.v (.sl (List.map GIns.c i46_)) [], .v (.int .i64 b47_) []] (.v (.int .i64 r) []) [] := by
  refine FnO.of Try.func23 (rfl : Try.f23.body = some _) (Nat.le_of_ble_eq_true (by kernel_rfl)) (Nat.le_of_ble_eq_true (by kernel_rfl)) ?_
  intro w0 X0 Fin pv0 pb
  unfold plaws_szInsS at h
  refine Wc.seq ?_
  refine Wc.region [] [] [0, 1] [] [] ⟨[(0, (.v (.sl (List.map GIns.c i46_)), [])), (1, (.v (.int .i64 b47_), []))], [], []⟩ _ (by kernel_rfl) .nil ?_
  refine Wc.seq ?_
  refine Wc.region [{}, {}, { v := some (.int .i64 (i46_.length : Int)) }] [] [0, 1] [] [] ⟨[(0, (.v (.sl (List.map GIns.c i46_)), [])), (1, (.v (.int .i64 (wr.i64 (b47_ - (i46_.length : Int)))), []))], [], []⟩ _ (by kernel_rfl) (.cons (len_obl GIns.c i46_) .nil) ?_
  refine Wc.seq ?_
  refine Wc.seq ?_
  refine Wc.region [] [] [0, 1, 11] [] [] ⟨[(0, (.v (.sl (List.map GIns.c i46_)), [])), (1, (.v (.int .i64 (wr.i64 (b47_ - (i46_.length : Int)))), [])), (11, (.v (.bool (decide ((wr.i64 (b47_ - (i46_.length : Int))) < 0))), []))], [], []⟩ _ (by kernel_rfl) .nil ?_
  rcases oif h with ⟨h44, h⟩ | ⟨h44, h⟩
  · refine Wc.condT h44 (by kernel_rfl) ?_
    refine Wc.seq ?_
    refine Wc.region [] [] [4] [] [] ⟨[(4, (.v (.int .i64 (-1)), []))], [], []⟩ _ (by kernel_rfl) .nil ?_
    refine Wc.ret ?_
    obtain rfl := Option.some.inj h
    exact ⟨.inl rfl, by kernel_rfl, by kernel_rfl⟩
  · refine Wc.condF h44 (by kernel_rfl) ?_
    refine Wc.fix (st' := ⟨[(0, (.v (.sl (List.map GIns.c i46_)), [])), (1, (.v (.int .i64 (wr.i64 (b47_ - (i46_.length : Int)))), []))], [], []⟩) [] [0, 1] [] [] (by kernel_rfl) ?_
    refine Wc.skip ?_
    refine Wc.seq ?_
    refine Wc.seq ?_
    refine Wc.region [] [] [0, 1, 5] [] [] ⟨[(0, (.v (.sl (List.map GIns.c i46_)), [])), (1, (.v (.int .i64 (wr.i64 (b47_ - (i46_.length : Int)))), [])), (5, (.v (.int .i64 0), []))], [], []⟩ _ (by kernel_rfl) .nil ?_
    obtain ⟨out1, h45, h⟩ := obind h
    refine Wc.lastJ (fun st => ∃ (b50_ : Int), out1 = .done b50_ ∧ st = ⟨[(1, (.v (.int .i64 b50_), []))], [], []⟩) ?_ ?_
    · refine Wc.block ?_
      refine Wc.loop (fun m st => ∃ (b48_ : Int) (b49_ : Int), st = ⟨[(0, (.v (.sl (List.map GIns.c i46_)), [])), (1, (.v (.int .i64 b48_), [])), (5, (.v (.int .i64 b49_), []))], [], []⟩ ∧ plaws_szInsS_L1 k i46_ m b48_ b49_ = some out1) ?_ k ⟨_, _, rfl, h45⟩
      rintro m st ⟨b48_, b49_, rfl, h45⟩
      cases m with
      | zero => exact (onone h45).elim
      | succ m =>
        refine Wc.seq ?_
        refine Wc.seq ?_
        refine Wc.region [{}, {}, { v := some (.int .i64 (i46_.length : Int)) }] [] [0, 1, 5, 15] [] [] ⟨[(0, (.v (.sl (List.map GIns.c i46_)), [])), (1, (.v (.int .i64 b48_), [])), (5, (.v (.int .i64 b49_), [])), (15, (.v (.bool (decide (b49_ < (i46_.length : Int)))), []))], [], []⟩ _ (by kernel_rfl) (.cons (len_obl GIns.c i46_) .nil) ?_
        rcases oif h45 with ⟨h46, h45⟩ | ⟨h46, h45⟩
        · refine Wc.condT h46 (by kernel_rfl) ?_
          refine Wc.fix (st' := ⟨[(0, (.v (.sl (List.map GIns.c i46_)), [])), (1, (.v (.int .i64 b48_), [])), (5, (.v (.int .i64 b49_), []))], [], []⟩) [] [0, 1, 5] [] [] (by kernel_rfl) ?_
          refine Wc.skip ?_
          refine Wc.seq ?_
          refine Wc.block ?_
          refine Wc.seq ?_
          obtain ⟨g51_, h47, h45⟩ := obind h45
          obtain ⟨b52_, h48, h45⟩ := obind h45
          refine Wc.region [{}, {}, { v := some (.vptr [.int .i64 g51_.gOp, .str g51_.gName, .int .i64 g51_.gNum, .int .i64 g51_.gMany]) }, {}, {}, { r := some (.v (.int .i64 b52_) []) }] [] [0, 1, 5] [] [] ⟨[(0, (.v (.sl (List.map GIns.c i46_)), [])), (1, (.v (.int .i64 b52_), [])), (5, (.v (.int .i64 b49_), []))], [], []⟩ _ (by kernel_rfl) (.cons (at_obl (c := GIns.c) (GIns.c_eq g51_) GIns.c_len h47) (.cons (len_ok 4 [.int .i64 g51_.gOp, .str g51_.gName, .int .i64 g51_.gNum, .int .i64 g51_.gMany]) (.cons (claws_szIns h48) .nil))) ?_
          refine Wc.seq ?_
          refine Wc.region [] [] [0, 1, 5, 25] [] [] ⟨[(0, (.v (.sl (List.map GIns.c i46_)), [])), (1, (.v (.int .i64 b52_), [])), (5, (.v (.int .i64 b49_), [])), (25, (.v (.bool (decide (b52_ < 0))), []))], [], []⟩ _ (by kernel_rfl) .nil ?_
          rcases oif h45 with ⟨h49, h45⟩ | ⟨h49, h45⟩
          · refine Wc.condT h49 (by kernel_rfl) ?_
            refine Wc.seq ?_
            refine Wc.region [] [] [4] [] [] ⟨[(4, (.v (.int .i64 (-1)), []))], [], []⟩ _ (by kernel_rfl) .nil ?_
            refine Wc.ret ?_
            obtain rfl := Option.some.inj h45
            obtain rfl := Option.some.inj h
            exact ⟨.inl rfl, by kernel_rfl, by kernel_rfl⟩
          · refine Wc.condF h49 (by kernel_rfl) ?_
            refine Wc.fix (st' := ⟨[(0, (.v (.sl (List.map GIns.c i46_)), [])), (1, (.v (.int .i64 b52_), [])), (5, (.v (.int .i64 b49_), []))], [], []⟩) [] [0, 1, 5] [] [] (by kernel_rfl) ?_
            refine Wc.skip ?_
            refine Wc.region [] [] [0, 1, 5] [] [] ⟨[(0, (.v (.sl (List.map GIns.c i46_)), [])), (1, (.v (.int .i64 b52_), [])), (5, (.v (.int .i64 (wr.i64 (b49_ + 1))), []))], [], []⟩ _ (by kernel_rfl) .nil ?_
            exact ⟨_, Nat.lt_succ_self _, _, _, rfl, h45⟩
        · refine Wc.condF h46 (by kernel_rfl) ?_
          refine Wc.fix (st' := ⟨[(1, (.v (.int .i64 b48_), []))], [], []⟩) [] [1] [] [] (by kernel_rfl) ?_
          refine Wc.exit ?_
          obtain rfl := Option.some.inj h45
          exact ⟨_, rfl, rfl⟩
    · rintro st ⟨b50_, rfl, rfl⟩
      refine Wc.seq ?_
      refine Wc.region [] [] [4] [] [] ⟨[(4, (.v (.int .i64 b50_), []))], [], []⟩ _ (by kernel_rfl) .nil ?_
      refine Wc.ret ?_
      obtain rfl := Option.some.inj h
      exact ⟨.inl rfl, by kernel_rfl, by kernel_rfl⟩

/-- spec.l01In -/
def pspec_l01In (k : Nat) (b53_ : Int) (b54_ : Int) (b55_ : Int) : Option Bool :=
  if (decide (b53_ ≥ b54_)) = true then
    some (decide (b53_ ≤ b55_))
  else
    some false
theorem cspec_l01In {k : Nat} {b53_ : Int} {b54_ : Int} {b55_ : Int} {r : Bool} (h : pspec_l01In k b53_ b54_ b55_ = some r) : FnO Try.prog 100 [.v (.int .i64 b53_) [], .v (.int .i64 b54_) [], .v (.int .i64 b55_) []] (.v (.bool r) []) [] := by
  refine FnO.of Try.func100 (rfl : Try.f100.body = some _) (Nat.le_of_ble_eq_true (by kernel_rfl)) (Nat.le_of_ble_eq_true (by kernel_rfl)) ?_
  intro w0 X0 Fin pv0 pb
  unfold pspec_l01In at h
  refine Wc.seq ?_
  refine Wc.region [] [] [0, 1, 2] [] [] ⟨[(0, (.v (.int .i64 b53_), [])), (1, (.v (.int .i64 b54_), [])), (2, (.v (.int .i64 b55_), []))], [], []⟩ _ (by kernel_rfl) .nil ?_
  refine Wc.seq ?_
  rcases oif h with ⟨h50, h⟩ | ⟨h50, h⟩
  · refine Wc.region [{}, {}, {}, { re := some (.bool true) }] [] [6] [] [] ⟨[(6, (.v (.bool (decide (b53_ ≤ b55_))), []))], [], []⟩ _ (by kernel_rfl) (.cons (congrArg AV.bool h50) .nil) ?_
    refine Wc.ret ?_
    obtain rfl := Option.some.inj h
    exact ⟨.inl rfl, by kernel_rfl, by kernel_rfl⟩
  · refine Wc.region [{}, {}, {}, { re := some (.bool false) }] [] [6] [] [] ⟨[(6, (.v (.bool false), []))], [], []⟩ _ (by kernel_rfl) (.cons (congrArg AV.bool h50) .nil) ?_
    refine Wc.ret ?_
    obtain rfl := Option.some.inj h
    exact ⟨.inl rfl, by kernel_rfl, by kernel_rfl⟩

/-- spec.l03Atom -/
def pspec_l03Atom (k : Nat) (e57_ : ByteArray) : Option GTerm :=
  some (GTerm.mk 2 e57_ 0 [])
theorem cspec_l03Atom {k : Nat} {e57_ : ByteArray} {r : GTerm} (h : pspec_l03Atom k e57_ = some r) : FnO Try.prog 101 [.v (.str e57_) []] (.v (.agg [.int .i64 r.gKind, .str r.gName, .int .i64 r.gNum, .sl (List.map GTerm.c r.gKids)]) [(3, .app 37)]) [] := by
  refine FnO.of Try.func101 (rfl : Try.f101.body = some _) (Nat.le_of_ble_eq_true (by kernel_rfl)) (Nat.le_of_ble_eq_true (by kernel_rfl)) ?_
  intro w0 X0 Fin pv0 pb
  unfold pspec_l03Atom at h
  refine Wc.seq ?_
  refine Wc.region [] [] [0, 2] [2] [] ⟨[(0, (.v (.str e57_), [])), (2, (.ptr 2 0, []))], [(2, .cells [.int .i64 0, .str (bs []), .int .i64 0, .sl (List.map GTerm.c [])] [(3, .app 37)])], []⟩ _ (by kernel_rfl) .nil ?_
  refine Wc.seq ?_
  refine Wc.region [{}, {}, { tk := [4] }] [] [2] [2] [] ⟨[(2, (.ptr 2 0, []))], [(2, .cells [.int .i64 2, .str e57_, .int .i64 0, .sl (List.map GTerm.c [])] [(3, .app 37)])], []⟩ _ (by kernel_rfl) .nil ?_
  refine Wc.ret ?_
  obtain rfl := Option.some.inj h
  exact ⟨.inl rfl, by kernel_rfl, by kernel_rfl⟩

/-- spec.l03Num -/
def pspec_l03Num (k : Nat) (b59_ : Int) : Option GTerm :=
  some (GTerm.mk 3 (bs []) b59_ [])
theorem cspec_l03Num {k : Nat} {b59_ : Int} {r : GTerm} (h : pspec_l03Num k b59_ = some r) : FnO Try.prog 102 [.v (.int .i64 b59_) []] (.v (.agg [.int .i64 r.gKind, .str r.gName, .int .i64 r.gNum, .sl (List.map GTerm.c r.gKids)]) [(3, .app 37)]) [] := by
  refine FnO.of Try.func102 (rfl : Try.f102.body = some _) (Nat.le_of_ble_eq_true (by kernel_rfl)) (Nat.le_of_ble_eq_true (by kernel_rfl)) ?_
  intro w0 X0 Fin pv0 pb
  unfold pspec_l03Num at h
  refine Wc.seq ?_
  refine Wc.region [] [] [0, 2] [2] [] ⟨[(0, (.v (.int .i64 b59_), [])), (2, (.ptr 2 0, []))], [(2, .cells [.int .i64 0, .str (bs []), .int .i64 0, .sl (List.map GTerm.c [])] [(3, .app 37)])], []⟩ _ (by kernel_rfl) .nil ?_
  refine Wc.seq ?_
  refine Wc.region [{}, {}, { tk := [4] }] [] [2] [2] [] ⟨[(2, (.ptr 2 0, []))], [(2, .cells [.int .i64 3, .str (bs []), .int .i64 b59_, .sl (List.map GTerm.c [])] [(3, .app 37)])], []⟩ _ (by kernel_rfl) .nil ?_
  refine Wc.ret ?_
  obtain rfl := Option.some.inj h
  exact ⟨.inl rfl, by kernel_rfl, by kernel_rfl⟩

/-- spec.l03Var -/
def pspec_l03Var (k : Nat) (b61_ : Int) : Option GTerm :=
  some (GTerm.mk 1 (bs []) b61_ [])
theorem cspec_l03Var {k : Nat} {b61_ : Int} {r : GTerm} (h : pspec_l03Var k b61_ = some r) : FnO Try.prog 103 [.v (.int .i64 b61_) []] (.v (.agg [.int .i64 r.gKind, .str r.gName, .int .i64 r.gNum, .sl (List.map GTerm.c r.gKids)]) [(3, .app 37)]) [] := by
  refine FnO.of Try.func103 (rfl : Try.f103.body = some _) (Nat.le_of_ble_eq_true (by kernel_rfl)) (Nat.le_of_ble_eq_true (by kernel_rfl)) ?_
  intro w0 X0 Fin pv0 pb
  unfold pspec_l03Var at h
  refine Wc.seq ?_
  refine Wc.region [] [] [0, 2] [2] [] ⟨[(0, (.v (.int .i64 b61_), [])), (2, (.ptr 2 0, []))], [(2, .cells [.int .i64 0, .str (bs []), .int .i64 0, .sl (List.map GTerm.c [])] [(3, .app 37)])], []⟩ _ (by kernel_rfl) .nil ?_
  refine Wc.seq ?_
  refine Wc.region [{}, {}, { tk := [4] }] [] [2] [2] [] ⟨[(2, (.ptr 2 0, []))], [(2, .cells [.int .i64 1, .str (bs []), .int .i64 b61_, .sl (List.map GTerm.c [])] [(3, .app 37)])], []⟩ _ (by kernel_rfl) .nil ?_
  refine Wc.ret ?_
  obtain rfl := Option.some.inj h
  exact ⟨.inl rfl, by kernel_rfl, by kernel_rfl⟩

def pspec_l12Term_L2 (k : Nat) (rspec_l12Term : (List GIns) → Int → Int → Option (GTerm × Int)) (g81_ : GIns) (i77_ : List GIns) (b79_ : Int) : Nat → Int → Int → GTerm → Option (Out (GTerm × Int) (Int × GTerm))
  | 0, _, _, _ => none
  | m + 1, b86_, b87_, c88_ =>
    if (decide (b87_ < g81_.gMany)) = true then
      if (decide (b87_ < 6)) = true then
        (rspec_l12Term i77_ b86_ (wr.i64 (b79_ + 1))).bind fun j91_ =>
        if (decide (j91_.2 < 0)) = true then
          some (.ret (GTerm.mk 0 (bs []) 0 [], -1))
        else
          if c88_.gKids.length + [GTerm.mk j91_.1.gKind j91_.1.gName j91_.1.gNum j91_.1.gKids].length ≤ 1073741824 then
            pspec_l12Term_L2 k rspec_l12Term g81_ i77_ b79_ m j91_.2 (wr.i64 (b87_ + 1)) (GTerm.mk c88_.gKind c88_.gName c88_.gNum (c88_.gKids ++ [GTerm.mk j91_.1.gKind j91_.1.gName j91_.1.gNum j91_.1.gKids]))
          else none
      else
        some (.done (b86_, c88_))
    else
      some (.done (b86_, c88_))
def pspec_l12Term_J1 (k : Nat) (rspec_l12Term : (List GIns) → Int → Int → Option (GTerm × Int)) (g81_ : GIns) (b78_ : Int) (i77_ : List GIns) (b79_ : Int) (d84_ : Bool) : Option (GTerm × Int) :=
  if d84_ = true then
    (pspec_l03Var k g81_.gNum).bind fun c85_ =>
    some (c85_, wr.i64 (b78_ + 1))
  else
    if (g81_.gOp == 5) = true then
      (pspec_l12Term_L2 k rspec_l12Term g81_ i77_ b79_ k (wr.i64 (b78_ + 1)) 0 (GTerm.mk 4 g81_.gName 0 [])).bind fun out2 => match out2 with
      | .ret r => some r
      | .done (b89_, c90_) =>
        some (c90_, b89_)
    else
      some (GTerm.mk 0 (bs []) 0 [], -1)
mutual
/-- spec.l12Term -/
def pspec_l12Term : Nat → (List GIns) → Int → Int → Option (GTerm × Int)
  | 0, _, _, _ => none
  | k + 1, i77_, b78_, b79_ =>
    (pspec_l01In k b78_ 0 (wr.i64 ((i77_.length : Int) - 1))).bind fun d80_ =>
    if (!d80_) = true then
      some (GTerm.mk 0 (bs []) 0 [], -1)
    else
      if (decide (b79_ > 40)) = true then
        some (GTerm.mk 0 (bs []) 0 [], -1)
      else
        (at' i77_ b78_).bind fun g81_ =>
        if (g81_.gOp == 1) = true then
          (pspec_l03Atom k g81_.gName).bind fun c82_ =>
          some (c82_, wr.i64 (b78_ + 1))
        else
          if (g81_.gOp == 2) = true then
            (pspec_l03Num k g81_.gNum).bind fun c83_ =>
            some (c83_, wr.i64 (b78_ + 1))
          else
            if (g81_.gOp == 3) = true then
              pspec_l12Term_J1 k (pspec_l12Term k) g81_ b78_ i77_ b79_ (g81_.gOp == 3)
            else
              pspec_l12Term_J1 k (pspec_l12Term k) g81_ b78_ i77_ b79_ (g81_.gOp == 4)
end
set_option maxHeartbeats 4000000 in
theorem all_pspec_l12Term : ∀ k : Nat, (∀ {i77_ : List GIns} {b78_ : Int} {b79_ : Int} {r : GTerm × Int}, pspec_l12Term k i77_ b78_ b79_ = some r → FnO Try.prog 64 [.v (.sl (List.map GIns.c i77_)) [], .v (.int .i64 b78_) [], .v (.int .i64 b79_) []] (.v (.tup [.agg [.int .i64 r.1.gKind, .str r.1.gName, .int .i64 r.1.gNum, .sl (List.map GTerm.c r.1.gKids)], .int .i64 r.2]) [(3, .app 37)]) []) := by
  intro k
  induction k with
  | zero =>
    · intro i77_ b78_ b79_ r h
      exact (onone (by rw [pspec_l12Term] at h; exact h)).elim
  | succ k ih =>
    have ih_pspec_l12Term := @ih
    · intro i77_ b78_ b79_ r h
      rw [pspec_l12Term] at h
      refine FnO.of Try.func64 (rfl : Try.f64.body = some _) (Nat.le_of_ble_eq_true (by kernel_rfl)) (Nat.le_of_ble_eq_true (by kernel_rfl)) ?_
      intro w0 X0 Fin pv0 pb
      refine Wc.seq ?_
      refine Wc.region [] [] [0, 1, 2, 6] [6] [] ⟨[(0, (.v (.sl (List.map GIns.c i77_)), [])), (1, (.v (.int .i64 b78_), [])), (2, (.v (.int .i64 b79_), [])), (6, (.ptr 6 0, []))], [(6, .cells [.int .i64 0, .str (bs []), .int .i64 0, .sl (List.map GTerm.c [])] [(3, .app 37)])], []⟩ _ (by kernel_rfl) .nil ?_
      refine Wc.seq ?_
      refine Wc.seq ?_
      obtain ⟨d80_, h69, h⟩ := obind h
      rcases oif h with ⟨h70, h⟩ | ⟨h70, h⟩
      · refine Wc.region [{}, {}, { v := some (.int .i64 (i77_.length : Int)) }, {}, { r := some (.v (.bool d80_) []) }, {}, { re := some (.bool true) }] [] [0, 1, 2, 6, 22] [6] [] ⟨[(0, (.v (.sl (List.map GIns.c i77_)), [])), (1, (.v (.int .i64 b78_), [])), (2, (.v (.int .i64 b79_), [])), (6, (.ptr 6 0, [])), (22, (.v (.bool true), []))], [(6, .cells [.int .i64 0, .str (bs []), .int .i64 0, .sl (List.map GTerm.c [])] [(3, .app 37)])], []⟩ _ (by kernel_rfl) (.cons (len_obl GIns.c i77_) (.cons (cspec_l01In h69) (.cons (congrArg AV.bool h70) .nil))) ?_
        refine Wc.condT rfl (by kernel_rfl) ?_
        refine Wc.seq ?_
        refine Wc.region [{}, { tk := [23] }] [] [6, 7] [6] [] ⟨[(6, (.ptr 6 0, [])), (7, (.v (.int .i64 (-1)), []))], [(6, .cells [.int .i64 0, .str (bs []), .int .i64 0, .sl (List.map GTerm.c [])] [(3, .app 37)])], []⟩ _ (by kernel_rfl) .nil ?_
        refine Wc.ret ?_
        obtain rfl := Option.some.inj h
        exact ⟨.inl rfl, by kernel_rfl, by kernel_rfl⟩
      · refine Wc.region [{}, {}, { v := some (.int .i64 (i77_.length : Int)) }, {}, { r := some (.v (.bool d80_) []) }, {}, { re := some (.bool false) }] [] [0, 1, 2, 6, 22] [6] [] ⟨[(0, (.v (.sl (List.map GIns.c i77_)), [])), (1, (.v (.int .i64 b78_), [])), (2, (.v (.int .i64 b79_), [])), (6, (.ptr 6 0, [])), (22, (.v (.bool (decide (b79_ > 40))), []))], [(6, .cells [.int .i64 0, .str (bs []), .int .i64 0, .sl (List.map GTerm.c [])] [(3, .app 37)])], []⟩ _ (by kernel_rfl) (.cons (len_obl GIns.c i77_) (.cons (cspec_l01In h69) (.cons (congrArg AV.bool h70) .nil))) ?_
        rcases oif h with ⟨h71, h⟩ | ⟨h71, h⟩
        · refine Wc.condT h71 (by kernel_rfl) ?_
          refine Wc.seq ?_
          refine Wc.region [{}, { tk := [23] }] [] [6, 7] [6] [] ⟨[(6, (.ptr 6 0, [])), (7, (.v (.int .i64 (-1)), []))], [(6, .cells [.int .i64 0, .str (bs []), .int .i64 0, .sl (List.map GTerm.c [])] [(3, .app 37)])], []⟩ _ (by kernel_rfl) .nil ?_
          refine Wc.ret ?_
          obtain rfl := Option.some.inj h
          exact ⟨.inl rfl, by kernel_rfl, by kernel_rfl⟩
        · refine Wc.condF h71 (by kernel_rfl) ?_
          refine Wc.fix (st' := ⟨[(0, (.v (.sl (List.map GIns.c i77_)), [])), (1, (.v (.int .i64 b78_), [])), (2, (.v (.int .i64 b79_), [])), (6, (.ptr 6 0, []))], [(6, .cells [.int .i64 0, .str (bs []), .int .i64 0, .sl (List.map GTerm.c [])] [(3, .app 37)])], []⟩) [] [0, 1, 2, 6] [6] [] (by kernel_rfl) ?_
          refine Wc.skip ?_
          refine Wc.seq ?_
          obtain ⟨g81_, h72, h⟩ := obind h
          refine Wc.region [{}, {}, { v := some (.vptr [.int .i64 g81_.gOp, .str g81_.gName, .int .i64 g81_.gNum, .int .i64 g81_.gMany]) }] [] [0, 1, 2, 6, 8] [6, 8] [] ⟨[(0, (.v (.sl (List.map GIns.c i77_)), [])), (1, (.v (.int .i64 b78_), [])), (2, (.v (.int .i64 b79_), [])), (6, (.ptr 6 0, [])), (8, (.ptr 8 0, []))], [(6, .cells [.int .i64 0, .str (bs []), .int .i64 0, .sl (List.map GTerm.c [])] [(3, .app 37)]), (8, .cells [.int .i64 g81_.gOp, .str g81_.gName, .int .i64 g81_.gNum, .int .i64 g81_.gMany] [])], []⟩ _ (by kernel_rfl) (.cons (at_obl (c := GIns.c) (GIns.c_eq g81_) GIns.c_len h72) (.cons (len_ok 4 [.int .i64 g81_.gOp, .str g81_.gName, .int .i64 g81_.gNum, .int .i64 g81_.gMany]) .nil)) ?_
          refine Wc.seq ?_
          refine Wc.region [] [] [0, 1, 2, 6, 8] [6, 8] [] ⟨[(0, (.v (.sl (List.map GIns.c i77_)), [])), (1, (.v (.int .i64 (wr.i64 (b78_ + 1))), [])), (2, (.v (.int .i64 b79_), [])), (6, (.ptr 6 0, [])), (8, (.ptr 8 0, []))], [(6, .cells [.int .i64 0, .str (bs []), .int .i64 0, .sl (List.map GTerm.c [])] [(3, .app 37)]), (8, .cells [.int .i64 g81_.gOp, .str g81_.gName, .int .i64 g81_.gNum, .int .i64 g81_.gMany] [])], []⟩ _ (by kernel_rfl) .nil ?_
          refine Wc.seq ?_
          refine Wc.seq ?_
          refine Wc.region [] [] [0, 1, 2, 6, 8, 31] [6, 8] [] ⟨[(0, (.v (.sl (List.map GIns.c i77_)), [])), (1, (.v (.int .i64 (wr.i64 (b78_ + 1))), [])), (2, (.v (.int .i64 b79_), [])), (6, (.ptr 6 0, [])), (8, (.ptr 8 0, [])), (31, (.v (.int .i64 g81_.gOp), []))], [(6, .cells [.int .i64 0, .str (bs []), .int .i64 0, .sl (List.map GTerm.c [])] [(3, .app 37)]), (8, .cells [.int .i64 g81_.gOp, .str g81_.gName, .int .i64 g81_.gNum, .int .i64 g81_.gMany] [])], []⟩ _ (by kernel_rfl) .nil ?_
          refine Wc.block ?_
          refine Wc.seq ?_
          refine Wc.region [] [] [0, 1, 2, 6, 8, 31, 32] [6, 8] [] ⟨[(0, (.v (.sl (List.map GIns.c i77_)), [])), (1, (.v (.int .i64 (wr.i64 (b78_ + 1))), [])), (2, (.v (.int .i64 b79_), [])), (6, (.ptr 6 0, [])), (8, (.ptr 8 0, [])), (31, (.v (.int .i64 g81_.gOp), [])), (32, (.v (.bool (g81_.gOp == 1)), []))], [(6, .cells [.int .i64 0, .str (bs []), .int .i64 0, .sl (List.map GTerm.c [])] [(3, .app 37)]), (8, .cells [.int .i64 g81_.gOp, .str g81_.gName, .int .i64 g81_.gNum, .int .i64 g81_.gMany] [])], []⟩ _ (by kernel_rfl) .nil ?_
          rcases oif h with ⟨h73, h⟩ | ⟨h73, h⟩
          · refine Wc.condT h73 (by kernel_rfl) ?_
            refine Wc.seq ?_
            obtain ⟨c82_, h74, h⟩ := obind h
            refine Wc.region [{}, {}, { r := some (.v (.agg [.int .i64 c82_.gKind, .str c82_.gName, .int .i64 c82_.gNum, .sl (List.map GTerm.c c82_.gKids)]) [(3, .app 37)]) }, {}, { tk := [36] }] [] [6, 7] [6] [] ⟨[(6, (.ptr 6 0, [])), (7, (.v (.int .i64 (wr.i64 (b78_ + 1))), []))], [(6, .cells [.int .i64 c82_.gKind, .str c82_.gName, .int .i64 c82_.gNum, .sl (List.map GTerm.c c82_.gKids)] [(3, .app 37)])], []⟩ _ (by kernel_rfl) (.cons (cspec_l03Atom h74) .nil) ?_
            refine Wc.ret ?_
            obtain rfl := Option.some.inj h
            exact ⟨.inl rfl, by kernel_rfl, by kernel_rfl⟩
          · refine Wc.condF h73 (by kernel_rfl) ?_
            refine Wc.seq ?_
            refine Wc.region [] [] [0, 1, 2, 6, 8, 31, 38] [6, 8] [] ⟨[(0, (.v (.sl (List.map GIns.c i77_)), [])), (1, (.v (.int .i64 (wr.i64 (b78_ + 1))), [])), (2, (.v (.int .i64 b79_), [])), (6, (.ptr 6 0, [])), (8, (.ptr 8 0, [])), (31, (.v (.int .i64 g81_.gOp), [])), (38, (.v (.bool (g81_.gOp == 2)), []))], [(6, .cells [.int .i64 0, .str (bs []), .int .i64 0, .sl (List.map GTerm.c [])] [(3, .app 37)]), (8, .cells [.int .i64 g81_.gOp, .str g81_.gName, .int .i64 g81_.gNum, .int .i64 g81_.gMany] [])], []⟩ _ (by kernel_rfl) .nil ?_
            rcases oif h with ⟨h75, h⟩ | ⟨h75, h⟩
            · refine Wc.condT h75 (by kernel_rfl) ?_
              refine Wc.seq ?_
              obtain ⟨c83_, h76, h⟩ := obind h
              refine Wc.region [{}, {}, { r := some (.v (.agg [.int .i64 c83_.gKind, .str c83_.gName, .int .i64 c83_.gNum, .sl (List.map GTerm.c c83_.gKids)]) [(3, .app 37)]) }, {}, { tk := [42] }] [] [6, 7] [6] [] ⟨[(6, (.ptr 6 0, [])), (7, (.v (.int .i64 (wr.i64 (b78_ + 1))), []))], [(6, .cells [.int .i64 c83_.gKind, .str c83_.gName, .int .i64 c83_.gNum, .sl (List.map GTerm.c c83_.gKids)] [(3, .app 37)])], []⟩ _ (by kernel_rfl) (.cons (cspec_l03Num h76) .nil) ?_
              refine Wc.ret ?_
              obtain rfl := Option.some.inj h
              exact ⟨.inl rfl, by kernel_rfl, by kernel_rfl⟩
            · refine Wc.condF h75 (by kernel_rfl) ?_
              refine Wc.seqJ (fun st => ∃ (d84_ : Bool), st = ⟨[(0, (.v (.sl (List.map GIns.c i77_)), [])), (1, (.v (.int .i64 (wr.i64 (b78_ + 1))), [])), (2, (.v (.int .i64 b79_), [])), (6, (.ptr 6 0, [])), (8, (.ptr 8 0, [])), (31, (.v (.int .i64 g81_.gOp), [])), (44, (.v (.bool d84_), []))], [(6, .cells [.int .i64 0, .str (bs []), .int .i64 0, .sl (List.map GTerm.c [])] [(3, .app 37)]), (8, .cells [.int .i64 g81_.gOp, .str g81_.gName, .int .i64 g81_.gNum, .int .i64 g81_.gMany] [])], []⟩ ∧ pspec_l12Term_J1 k (pspec_l12Term k) g81_ b78_ i77_ b79_ d84_ = some r) ?_ ?_
              · refine Wc.seq ?_
                refine Wc.region [] [] [0, 1, 2, 6, 8, 31, 44] [6, 8] [] ⟨[(0, (.v (.sl (List.map GIns.c i77_)), [])), (1, (.v (.int .i64 (wr.i64 (b78_ + 1))), [])), (2, (.v (.int .i64 b79_), [])), (6, (.ptr 6 0, [])), (8, (.ptr 8 0, [])), (31, (.v (.int .i64 g81_.gOp), [])), (44, (.v (.bool (g81_.gOp == 3)), []))], [(6, .cells [.int .i64 0, .str (bs []), .int .i64 0, .sl (List.map GTerm.c [])] [(3, .app 37)]), (8, .cells [.int .i64 g81_.gOp, .str g81_.gName, .int .i64 g81_.gNum, .int .i64 g81_.gMany] [])], []⟩ _ (by kernel_rfl) .nil ?_
                rcases oif h with ⟨h86, h⟩ | ⟨h86, h⟩
                · refine Wc.condT h86 (by kernel_rfl) ?_
                  refine Wc.skip ?_
                  exact ⟨_, rfl, h⟩
                · refine Wc.condF h86 (by kernel_rfl) ?_
                  refine Wc.region [] [] [0, 1, 2, 6, 8, 31, 44] [6, 8] [] ⟨[(0, (.v (.sl (List.map GIns.c i77_)), [])), (1, (.v (.int .i64 (wr.i64 (b78_ + 1))), [])), (2, (.v (.int .i64 b79_), [])), (6, (.ptr 6 0, [])), (8, (.ptr 8 0, [])), (31, (.v (.int .i64 g81_.gOp), [])), (44, (.v (.bool (g81_.gOp == 4)), []))], [(6, .cells [.int .i64 0, .str (bs []), .int .i64 0, .sl (List.map GTerm.c [])] [(3, .app 37)]), (8, .cells [.int .i64 g81_.gOp, .str g81_.gName, .int .i64 g81_.gNum, .int .i64 g81_.gMany] [])], []⟩ _ (by kernel_rfl) .nil ?_
                  exact ⟨_, rfl, h⟩
              · rintro st ⟨d84_, rfl, h⟩
                rcases oif h with ⟨h77, h⟩ | ⟨h77, h⟩
                · refine Wc.condT h77 (by kernel_rfl) ?_
                  refine Wc.seq ?_
                  obtain ⟨c85_, h78, h⟩ := obind h
                  refine Wc.region [{}, {}, { r := some (.v (.agg [.int .i64 c85_.gKind, .str c85_.gName, .int .i64 c85_.gNum, .sl (List.map GTerm.c c85_.gKids)]) [(3, .app 37)]) }, {}, { tk := [49] }] [] [6, 7] [6] [] ⟨[(6, (.ptr 6 0, [])), (7, (.v (.int .i64 (wr.i64 (b78_ + 1))), []))], [(6, .cells [.int .i64 c85_.gKind, .str c85_.gName, .int .i64 c85_.gNum, .sl (List.map GTerm.c c85_.gKids)] [(3, .app 37)])], []⟩ _ (by kernel_rfl) (.cons (cspec_l03Var h78) .nil) ?_
                  refine Wc.ret ?_
                  obtain rfl := Option.some.inj h
                  exact ⟨.inl rfl, by kernel_rfl, by kernel_rfl⟩
                · refine Wc.condF h77 (by kernel_rfl) ?_
                  refine Wc.seq ?_
                  refine Wc.region [] [] [0, 1, 2, 6, 8, 51] [6, 8] [] ⟨[(0, (.v (.sl (List.map GIns.c i77_)), [])), (1, (.v (.int .i64 (wr.i64 (b78_ + 1))), [])), (2, (.v (.int .i64 b79_), [])), (6, (.ptr 6 0, [])), (8, (.ptr 8 0, [])), (51, (.v (.bool (g81_.gOp == 5)), []))], [(6, .cells [.int .i64 0, .str (bs []), .int .i64 0, .sl (List.map GTerm.c [])] [(3, .app 37)]), (8, .cells [.int .i64 g81_.gOp, .str g81_.gName, .int .i64 g81_.gNum, .int .i64 g81_.gMany] [])], []⟩ _ (by kernel_rfl) .nil ?_
                  rcases oif h with ⟨h79, h⟩ | ⟨h79, h⟩
                  · refine Wc.condT h79 (by kernel_rfl) ?_
                    refine Wc.seq ?_
                    refine Wc.region [{}, {}, {}, {}, { tk := [55] }] [] [0, 1, 2, 6, 8, 9] [6, 8, 9] [] ⟨[(0, (.v (.sl (List.map GIns.c i77_)), [])), (1, (.v (.int .i64 (wr.i64 (b78_ + 1))), [])), (2, (.v (.int .i64 b79_), [])), (6, (.ptr 6 0, [])), (8, (.ptr 8 0, [])), (9, (.ptr 9 0, []))], [(6, .cells [.int .i64 0, .str (bs []), .int .i64 0, .sl (List.map GTerm.c [])] [(3, .app 37)]), (8, .cells [.int .i64 g81_.gOp, .str g81_.gName, .int .i64 g81_.gNum, .int .i64 g81_.gMany] []), (9, .cells [.int .i64 4, .str g81_.gName, .int .i64 0, .sl (List.map GTerm.c [])] [(3, .app 37)])], []⟩ _ (by kernel_rfl) .nil ?_
                    refine Wc.seq ?_
                    refine Wc.seq ?_
                    refine Wc.region [] [] [0, 1, 2, 6, 8, 9, 10] [6, 8, 9] [] ⟨[(0, (.v (.sl (List.map GIns.c i77_)), [])), (1, (.v (.int .i64 (wr.i64 (b78_ + 1))), [])), (2, (.v (.int .i64 b79_), [])), (6, (.ptr 6 0, [])), (8, (.ptr 8 0, [])), (9, (.ptr 9 0, [])), (10, (.v (.int .i64 0), []))], [(6, .cells [.int .i64 0, .str (bs []), .int .i64 0, .sl (List.map GTerm.c [])] [(3, .app 37)]), (8, .cells [.int .i64 g81_.gOp, .str g81_.gName, .int .i64 g81_.gNum, .int .i64 g81_.gMany] []), (9, .cells [.int .i64 4, .str g81_.gName, .int .i64 0, .sl (List.map GTerm.c [])] [(3, .app 37)])], []⟩ _ (by kernel_rfl) .nil ?_
                    obtain ⟨out2, h80, h⟩ := obind h
                    refine Wc.lastJ (fun st => ∃ (b89_ : Int) (c90_ : GTerm), out2 = .done (b89_, c90_) ∧ st = ⟨[(1, (.v (.int .i64 b89_), [])), (6, (.ptr 6 0, [])), (9, (.ptr 9 0, []))], [(6, .cells [.int .i64 0, .str (bs []), .int .i64 0, .sl (List.map GTerm.c [])] [(3, .app 37)]), (9, .cells [.int .i64 c90_.gKind, .str c90_.gName, .int .i64 c90_.gNum, .sl (List.map GTerm.c c90_.gKids)] [(3, .app 37)])], []⟩) ?_ ?_
                    · refine Wc.block ?_
                      refine Wc.loop (fun m st => ∃ (b86_ : Int) (b87_ : Int) (c88_ : GTerm), st = ⟨[(0, (.v (.sl (List.map GIns.c i77_)), [])), (1, (.v (.int .i64 b86_), [])), (2, (.v (.int .i64 b79_), [])), (6, (.ptr 6 0, [])), (8, (.ptr 8 0, [])), (9, (.ptr 9 0, [])), (10, (.v (.int .i64 b87_), []))], [(6, .cells [.int .i64 0, .str (bs []), .int .i64 0, .sl (List.map GTerm.c [])] [(3, .app 37)]), (8, .cells [.int .i64 g81_.gOp, .str g81_.gName, .int .i64 g81_.gNum, .int .i64 g81_.gMany] []), (9, .cells [.int .i64 c88_.gKind, .str c88_.gName, .int .i64 c88_.gNum, .sl (List.map GTerm.c c88_.gKids)] [(3, .app 37)])], []⟩ ∧ pspec_l12Term_L2 k (pspec_l12Term k) g81_ i77_ b79_ m b86_ b87_ c88_ = some out2) ?_ k ⟨_, _, _, rfl, h80⟩
                      rintro m st ⟨b86_, b87_, c88_, rfl, h80⟩
                      cases m with
                      | zero => exact (onone h80).elim
                      | succ m =>
                        refine Wc.seq ?_
                        refine Wc.seq ?_
                        rcases oif h80 with ⟨h81, h80⟩ | ⟨h81, h80⟩
                        · refine Wc.region [{}, {}, {}, {}, { re := some (.bool true) }] [] [0, 1, 2, 6, 8, 9, 10, 63] [6, 8, 9] [] ⟨[(0, (.v (.sl (List.map GIns.c i77_)), [])), (1, (.v (.int .i64 b86_), [])), (2, (.v (.int .i64 b79_), [])), (6, (.ptr 6 0, [])), (8, (.ptr 8 0, [])), (9, (.ptr 9 0, [])), (10, (.v (.int .i64 b87_), [])), (63, (.v (.bool (decide (b87_ < 6))), []))], [(6, .cells [.int .i64 0, .str (bs []), .int .i64 0, .sl (List.map GTerm.c [])] [(3, .app 37)]), (8, .cells [.int .i64 g81_.gOp, .str g81_.gName, .int .i64 g81_.gNum, .int .i64 g81_.gMany] []), (9, .cells [.int .i64 c88_.gKind, .str c88_.gName, .int .i64 c88_.gNum, .sl (List.map GTerm.c c88_.gKids)] [(3, .app 37)])], []⟩ _ (by kernel_rfl) (.cons (congrArg AV.bool h81) .nil) ?_
                          rcases oif h80 with ⟨h82, h80⟩ | ⟨h82, h80⟩
                          · refine Wc.condT h82 (by kernel_rfl) ?_
                            refine Wc.fix (st' := ⟨[(0, (.v (.sl (List.map GIns.c i77_)), [])), (1, (.v (.int .i64 b86_), [])), (2, (.v (.int .i64 b79_), [])), (6, (.ptr 6 0, [])), (8, (.ptr 8 0, [])), (9, (.ptr 9 0, [])), (10, (.v (.int .i64 b87_), []))], [(6, .cells [.int .i64 0, .str (bs []), .int .i64 0, .sl (List.map GTerm.c [])] [(3, .app 37)]), (8, .cells [.int .i64 g81_.gOp, .str g81_.gName, .int .i64 g81_.gNum, .int .i64 g81_.gMany] []), (9, .cells [.int .i64 c88_.gKind, .str c88_.gName, .int .i64 c88_.gNum, .sl (List.map GTerm.c c88_.gKids)] [(3, .app 37)])], []⟩) [] [0, 1, 2, 6, 8, 9, 10] [6, 8, 9] [] (by kernel_rfl) ?_
                            refine Wc.skip ?_
                            refine Wc.seq ?_
                            refine Wc.block ?_
                            refine Wc.seq ?_
                            obtain ⟨j91_, h83, h80⟩ := obind h80
                            refine Wc.region [{}, {}, {}, {}, { r := some (.v (.tup [.agg [.int .i64 j91_.1.gKind, .str j91_.1.gName, .int .i64 j91_.1.gNum, .sl (List.map GTerm.c j91_.1.gKids)], .int .i64 j91_.2]) [(3, .app 37)]) }, { tk := [71] }, { tk := [66] }, {}, {}, { tk := [72] }] [] [0, 2, 6, 8, 9, 10, 11, 12] [6, 8, 9, 11] [] ⟨[(0, (.v (.sl (List.map GIns.c i77_)), [])), (2, (.v (.int .i64 b79_), [])), (6, (.ptr 6 0, [])), (8, (.ptr 8 0, [])), (9, (.ptr 9 0, [])), (10, (.v (.int .i64 b87_), [])), (11, (.ptr 11 0, [])), (12, (.v (.int .i64 j91_.2), []))], [(6, .cells [.int .i64 0, .str (bs []), .int .i64 0, .sl (List.map GTerm.c [])] [(3, .app 37)]), (8, .cells [.int .i64 g81_.gOp, .str g81_.gName, .int .i64 g81_.gNum, .int .i64 g81_.gMany] []), (9, .cells [.int .i64 c88_.gKind, .str c88_.gName, .int .i64 c88_.gNum, .sl (List.map GTerm.c c88_.gKids)] [(3, .app 37)]), (11, .cells [.int .i64 j91_.1.gKind, .str j91_.1.gName, .int .i64 j91_.1.gNum, .sl (List.map GTerm.c j91_.1.gKids)] [(3, .app 37)])], []⟩ _ (by kernel_rfl) (.cons (ih_pspec_l12Term h83) .nil) ?_
                            refine Wc.seq ?_
                            refine Wc.seq ?_
                            refine Wc.region [] [] [0, 2, 6, 8, 9, 10, 11, 12, 75] [6, 8, 9, 11] [] ⟨[(0, (.v (.sl (List.map GIns.c i77_)), [])), (2, (.v (.int .i64 b79_), [])), (6, (.ptr 6 0, [])), (8, (.ptr 8 0, [])), (9, (.ptr 9 0, [])), (10, (.v (.int .i64 b87_), [])), (11, (.ptr 11 0, [])), (12, (.v (.int .i64 j91_.2), [])), (75, (.v (.bool (decide (j91_.2 < 0))), []))], [(6, .cells [.int .i64 0, .str (bs []), .int .i64 0, .sl (List.map GTerm.c [])] [(3, .app 37)]), (8, .cells [.int .i64 g81_.gOp, .str g81_.gName, .int .i64 g81_.gNum, .int .i64 g81_.gMany] []), (9, .cells [.int .i64 c88_.gKind, .str c88_.gName, .int .i64 c88_.gNum, .sl (List.map GTerm.c c88_.gKids)] [(3, .app 37)]), (11, .cells [.int .i64 j91_.1.gKind, .str j91_.1.gName, .int .i64 j91_.1.gNum, .sl (List.map GTerm.c j91_.1.gKids)] [(3, .app 37)])], []⟩ _ (by kernel_rfl) .nil ?_
                            rcases oif h80 with ⟨h84, h80⟩ | ⟨h84, h80⟩
                            · refine Wc.condT h84 (by kernel_rfl) ?_
                              refine Wc.seq ?_
                              refine Wc.region [{}, { tk := [76] }] [] [6, 7] [6] [] ⟨[(6, (.ptr 6 0, [])), (7, (.v (.int .i64 (-1)), []))], [(6, .cells [.int .i64 0, .str (bs []), .int .i64 0, .sl (List.map GTerm.c [])] [(3, .app 37)])], []⟩ _ (by kernel_rfl) .nil ?_
                              refine Wc.ret ?_
                              obtain rfl := Option.some.inj h80
                              obtain rfl := Option.some.inj h
                              exact ⟨.inl rfl, by kernel_rfl, by kernel_rfl⟩
                            · refine Wc.condF h84 (by kernel_rfl) ?_
                              refine Wc.fix (st' := ⟨[(0, (.v (.sl (List.map GIns.c i77_)), [])), (2, (.v (.int .i64 b79_), [])), (6, (.ptr 6 0, [])), (8, (.ptr 8 0, [])), (9, (.ptr 9 0, [])), (10, (.v (.int .i64 b87_), [])), (11, (.ptr 11 0, [])), (12, (.v (.int .i64 j91_.2), []))], [(6, .cells [.int .i64 0, .str (bs []), .int .i64 0, .sl (List.map GTerm.c [])] [(3, .app 37)]), (8, .cells [.int .i64 g81_.gOp, .str g81_.gName, .int .i64 g81_.gNum, .int .i64 g81_.gMany] []), (9, .cells [.int .i64 c88_.gKind, .str c88_.gName, .int .i64 c88_.gNum, .sl (List.map GTerm.c c88_.gKids)] [(3, .app 37)]), (11, .cells [.int .i64 j91_.1.gKind, .str j91_.1.gName, .int .i64 j91_.1.gNum, .sl (List.map GTerm.c j91_.1.gKids)] [(3, .app 37)])], []⟩) [] [0, 2, 6, 8, 9, 10, 11, 12] [6, 8, 9, 11] [] (by kernel_rfl) ?_
                              refine Wc.skip ?_
                              refine Wc.seq ?_
                              obtain ⟨h85, h80⟩ := oguard h80
                              refine Wc.region [{}, { md := 1 }, {}, { c := some (List.map GTerm.c [GTerm.mk j91_.1.gKind j91_.1.gName j91_.1.gNum j91_.1.gKids]) }, { c := some (List.map GTerm.c (c88_.gKids ++ [GTerm.mk j91_.1.gKind j91_.1.gName j91_.1.gNum j91_.1.gKids])), tk := [78] }, {}, { tk := [81] }] [] [0, 2, 6, 8, 9, 10, 12] [6, 8, 9] [] ⟨[(0, (.v (.sl (List.map GIns.c i77_)), [])), (2, (.v (.int .i64 b79_), [])), (6, (.ptr 6 0, [])), (8, (.ptr 8 0, [])), (9, (.ptr 9 0, [])), (10, (.v (.int .i64 b87_), [])), (12, (.v (.int .i64 j91_.2), []))], [(6, .cells [.int .i64 0, .str (bs []), .int .i64 0, .sl (List.map GTerm.c [])] [(3, .app 37)]), (8, .cells [.int .i64 g81_.gOp, .str g81_.gName, .int .i64 g81_.gNum, .int .i64 g81_.gMany] []), (9, .cells [.int .i64 c88_.gKind, .str c88_.gName, .int .i64 c88_.gNum, .sl (List.map GTerm.c (c88_.gKids ++ [GTerm.mk j91_.1.gKind j91_.1.gName j91_.1.gNum j91_.1.gKids]))] [(3, .app 37)])], []⟩ _ (by kernel_rfl) (.cons (cl_cons (c := GTerm.c) (x := GTerm.mk j91_.1.gKind j91_.1.gName j91_.1.gNum j91_.1.gKids) (GTerm.c_eq (GTerm.mk j91_.1.gKind j91_.1.gName j91_.1.gNum j91_.1.gKids)) (cl_nil GTerm.c)) (.cons (app_re2 GTerm.c c88_.gKids [GTerm.mk j91_.1.gKind j91_.1.gName j91_.1.gNum j91_.1.gKids]) (.cons (app_leaf (c := GTerm.c) (ys := [GTerm.mk j91_.1.gKind j91_.1.gName j91_.1.gNum j91_.1.gKids]) GTerm.c_leaf) (.cons (app_obl2 (c := GTerm.c) (xs := c88_.gKids) (ys := [GTerm.mk j91_.1.gKind j91_.1.gName j91_.1.gNum j91_.1.gKids]) GTerm.c_len h85) .nil)))) ?_
                              refine Wc.region [] [] [0, 1, 2, 6, 8, 9, 10] [6, 8, 9] [] ⟨[(0, (.v (.sl (List.map GIns.c i77_)), [])), (1, (.v (.int .i64 j91_.2), [])), (2, (.v (.int .i64 b79_), [])), (6, (.ptr 6 0, [])), (8, (.ptr 8 0, [])), (9, (.ptr 9 0, [])), (10, (.v (.int .i64 b87_), []))], [(6, .cells [.int .i64 0, .str (bs []), .int .i64 0, .sl (List.map GTerm.c [])] [(3, .app 37)]), (8, .cells [.int .i64 g81_.gOp, .str g81_.gName, .int .i64 g81_.gNum, .int .i64 g81_.gMany] []), (9, .cells [.int .i64 c88_.gKind, .str c88_.gName, .int .i64 c88_.gNum, .sl (List.map GTerm.c (c88_.gKids ++ [GTerm.mk j91_.1.gKind j91_.1.gName j91_.1.gNum j91_.1.gKids]))] [(3, .app 37)])], []⟩ _ (by kernel_rfl) .nil ?_
                              refine Wc.region [] [] [0, 1, 2, 6, 8, 9, 10] [6, 8, 9] [] ⟨[(0, (.v (.sl (List.map GIns.c i77_)), [])), (1, (.v (.int .i64 j91_.2), [])), (2, (.v (.int .i64 b79_), [])), (6, (.ptr 6 0, [])), (8, (.ptr 8 0, [])), (9, (.ptr 9 0, [])), (10, (.v (.int .i64 (wr.i64 (b87_ + 1))), []))], [(6, .cells [.int .i64 0, .str (bs []), .int .i64 0, .sl (List.map GTerm.c [])] [(3, .app 37)]), (8, .cells [.int .i64 g81_.gOp, .str g81_.gName, .int .i64 g81_.gNum, .int .i64 g81_.gMany] []), (9, .cells [.int .i64 c88_.gKind, .str c88_.gName, .int .i64 c88_.gNum, .sl (List.map GTerm.c (c88_.gKids ++ [GTerm.mk j91_.1.gKind j91_.1.gName j91_.1.gNum j91_.1.gKids]))] [(3, .app 37)])], []⟩ _ (by kernel_rfl) .nil ?_
                              exact ⟨_, Nat.lt_succ_self _, _, _, _, rfl, h80⟩
                          · refine Wc.condF h82 (by kernel_rfl) ?_
                            refine Wc.fix (st' := ⟨[(1, (.v (.int .i64 b86_), [])), (6, (.ptr 6 0, [])), (9, (.ptr 9 0, []))], [(6, .cells [.int .i64 0, .str (bs []), .int .i64 0, .sl (List.map GTerm.c [])] [(3, .app 37)]), (9, .cells [.int .i64 c88_.gKind, .str c88_.gName, .int .i64 c88_.gNum, .sl (List.map GTerm.c c88_.gKids)] [(3, .app 37)])], []⟩) [] [1, 6, 9] [6, 9] [] (by kernel_rfl) ?_
                            refine Wc.exit ?_
                            obtain rfl := Option.some.inj h80
                            exact ⟨_, _, rfl, rfl⟩
                        · refine Wc.region [{}, {}, {}, {}, { re := some (.bool false) }] [] [0, 1, 2, 6, 8, 9, 10, 63] [6, 8, 9] [] ⟨[(0, (.v (.sl (List.map GIns.c i77_)), [])), (1, (.v (.int .i64 b86_), [])), (2, (.v (.int .i64 b79_), [])), (6, (.ptr 6 0, [])), (8, (.ptr 8 0, [])), (9, (.ptr 9 0, [])), (10, (.v (.int .i64 b87_), [])), (63, (.v (.bool false), []))], [(6, .cells [.int .i64 0, .str (bs []), .int .i64 0, .sl (List.map GTerm.c [])] [(3, .app 37)]), (8, .cells [.int .i64 g81_.gOp, .str g81_.gName, .int .i64 g81_.gNum, .int .i64 g81_.gMany] []), (9, .cells [.int .i64 c88_.gKind, .str c88_.gName, .int .i64 c88_.gNum, .sl (List.map GTerm.c c88_.gKids)] [(3, .app 37)])], []⟩ _ (by kernel_rfl) (.cons (congrArg AV.bool h81) .nil) ?_
                          refine Wc.condF rfl (by kernel_rfl) ?_
                          refine Wc.fix (st' := ⟨[(1, (.v (.int .i64 b86_), [])), (6, (.ptr 6 0, [])), (9, (.ptr 9 0, []))], [(6, .cells [.int .i64 0, .str (bs []), .int .i64 0, .sl (List.map GTerm.c [])] [(3, .app 37)]), (9, .cells [.int .i64 c88_.gKind, .str c88_.gName, .int .i64 c88_.gNum, .sl (List.map GTerm.c c88_.gKids)] [(3, .app 37)])], []⟩) [] [1, 6, 9] [6, 9] [] (by kernel_rfl) ?_
                          refine Wc.exit ?_
                          obtain rfl := Option.some.inj h80
                          exact ⟨_, _, rfl, rfl⟩
                    · rintro st ⟨b89_, c90_, rfl, rfl⟩
                      refine Wc.seq ?_
                      refine Wc.region [{ md := 1 }, {}, { tk := [84] }] [] [6, 7] [6] [] ⟨[(6, (.ptr 6 0, [])), (7, (.v (.int .i64 b89_), []))], [(6, .cells [.int .i64 c90_.gKind, .str c90_.gName, .int .i64 c90_.gNum, .sl (List.map GTerm.c c90_.gKids)] [(3, .app 37)])], []⟩ _ (by kernel_rfl) .nil ?_
                      refine Wc.ret ?_
                      obtain rfl := Option.some.inj h
                      exact ⟨.inl rfl, by kernel_rfl, by kernel_rfl⟩
                  · refine Wc.condF h79 (by kernel_rfl) ?_
                    refine Wc.fix (st' := ⟨[(6, (.ptr 6 0, []))], [(6, .cells [.int .i64 0, .str (bs []), .int .i64 0, .sl (List.map GTerm.c [])] [(3, .app 37)])], []⟩) [] [6] [6] [] (by kernel_rfl) ?_
                    refine Wc.skip ?_
                    refine Wc.seq ?_
                    refine Wc.region [{}, { tk := [86] }] [] [6, 7] [6] [] ⟨[(6, (.ptr 6 0, [])), (7, (.v (.int .i64 (-1)), []))], [(6, .cells [.int .i64 0, .str (bs []), .int .i64 0, .sl (List.map GTerm.c [])] [(3, .app 37)])], []⟩ _ (by kernel_rfl) .nil ?_
                    refine Wc.ret ?_
                    obtain rfl := Option.some.inj h
                    exact ⟨.inl rfl, by kernel_rfl, by kernel_rfl⟩
theorem cspec_l12Term {k : Nat} {i77_ : List GIns} {b78_ : Int} {b79_ : Int} {r : GTerm × Int} (h : pspec_l12Term k i77_ b78_ b79_ = some r) : FnO Try.prog 64 [.v (.sl (List.map GIns.c i77_)) [], .v (.int .i64 b78_) [], .v (.int .i64 b79_) []] (.v (.tup [.agg [.int .i64 r.1.gKind, .str r.1.gName, .int .i64 r.1.gNum, .sl (List.map GTerm.c r.1.gKids)], .int .i64 r.2]) [(3, .app 37)]) [] := (all_pspec_l12Term k) h

def pspec_l03Count_L1 (k : Nat) (rspec_l03Count : GTerm → Int → Option Int) (c92_ : GTerm) : Nat → Int → Int → Option (Out Int Int)
  | 0, _, _ => none
  | m + 1, b94_, b95_ =>
    if (decide (b95_ < (c92_.gKids.length : Int))) = true then
      if (decide (b94_ ≥ 0)) = true then
        (at' c92_.gKids b95_).bind fun c97_ =>
        (rspec_l03Count c97_ b94_).bind fun b98_ =>
        pspec_l03Count_L1 k rspec_l03Count c92_ m b98_ (wr.i64 (b95_ + 1))
      else
        some (.done b94_)
    else
      some (.done b94_)
mutual
/-- spec.l03Count -/
def pspec_l03Count : Nat → GTerm → Int → Option Int
  | 0, _, _ => none
  | k + 1, c92_, b93_ =>
    (pspec_l03Count_L1 k (pspec_l03Count k) c92_ k (wr.i64 (b93_ - 1)) 0).bind fun out1 => match out1 with
    | .ret r => some r
    | .done b96_ =>
      some b96_
end
theorem all_pspec_l03Count : ∀ k : Nat, (∀ {c92_ : GTerm} {b93_ : Int} {r : Int}, pspec_l03Count k c92_ b93_ = some r → FnO Try.prog 104 [.v (.agg [.int .i64 c92_.gKind, .str c92_.gName, .int .i64 c92_.gNum, .sl (List.map GTerm.c c92_.gKids)]) [], .v (.int .i64 b93_) []] (.v (.int .i64 r) []) []) := by
  intro k
  induction k with
  | zero =>
    · intro c92_ b93_ r h
      exact (onone (by rw [pspec_l03Count] at h; exact h)).elim
  | succ k ih =>
    have ih_pspec_l03Count := @ih
    · intro c92_ b93_ r h
      rw [pspec_l03Count] at h
      refine FnO.of Try.func104 (rfl : Try.f104.body = some _) (Nat.le_of_ble_eq_true (by kernel_rfl)) (Nat.le_of_ble_eq_true (by kernel_rfl)) ?_
      intro w0 X0 Fin pv0 pb
      refine Wc.seq ?_
      refine Wc.region [] [] [1, 2] [2] [] ⟨[(1, (.v (.int .i64 b93_), [])), (2, (.ptr 2 0, []))], [(2, .cells [.int .i64 c92_.gKind, .str c92_.gName, .int .i64 c92_.gNum, .sl (List.map GTerm.c c92_.gKids)] [])], []⟩ _ (by kernel_rfl) .nil ?_
      refine Wc.seq ?_
      refine Wc.region [] [] [1, 2] [2] [] ⟨[(1, (.v (.int .i64 (wr.i64 (b93_ - 1))), [])), (2, (.ptr 2 0, []))], [(2, .cells [.int .i64 c92_.gKind, .str c92_.gName, .int .i64 c92_.gNum, .sl (List.map GTerm.c c92_.gKids)] [])], []⟩ _ (by kernel_rfl) .nil ?_
      refine Wc.seq ?_
      refine Wc.seq ?_
      refine Wc.region [] [] [1, 2, 5] [2] [] ⟨[(1, (.v (.int .i64 (wr.i64 (b93_ - 1))), [])), (2, (.ptr 2 0, [])), (5, (.v (.int .i64 0), []))], [(2, .cells [.int .i64 c92_.gKind, .str c92_.gName, .int .i64 c92_.gNum, .sl (List.map GTerm.c c92_.gKids)] [])], []⟩ _ (by kernel_rfl) .nil ?_
      obtain ⟨out1, h87, h⟩ := obind h
      refine Wc.lastJ (fun st => ∃ (b96_ : Int), out1 = .done b96_ ∧ st = ⟨[(1, (.v (.int .i64 b96_), []))], [], []⟩) ?_ ?_
      · refine Wc.block ?_
        refine Wc.loop (fun m st => ∃ (b94_ : Int) (b95_ : Int), st = ⟨[(1, (.v (.int .i64 b94_), [])), (2, (.ptr 2 0, [])), (5, (.v (.int .i64 b95_), []))], [(2, .cells [.int .i64 c92_.gKind, .str c92_.gName, .int .i64 c92_.gNum, .sl (List.map GTerm.c c92_.gKids)] [])], []⟩ ∧ pspec_l03Count_L1 k (pspec_l03Count k) c92_ m b94_ b95_ = some out1) ?_ k ⟨_, _, rfl, h87⟩
        rintro m st ⟨b94_, b95_, rfl, h87⟩
        cases m with
        | zero => exact (onone h87).elim
        | succ m =>
          refine Wc.seq ?_
          refine Wc.seq ?_
          rcases oif h87 with ⟨h88, h87⟩ | ⟨h88, h87⟩
          · refine Wc.region [{}, {}, {}, { v := some (.int .i64 (c92_.gKids.length : Int)) }, {}, { re := some (.bool true) }] [] [1, 2, 5, 16] [2] [] ⟨[(1, (.v (.int .i64 b94_), [])), (2, (.ptr 2 0, [])), (5, (.v (.int .i64 b95_), [])), (16, (.v (.bool (decide (b94_ ≥ 0))), []))], [(2, .cells [.int .i64 c92_.gKind, .str c92_.gName, .int .i64 c92_.gNum, .sl (List.map GTerm.c c92_.gKids)] [])], []⟩ _ (by kernel_rfl) (.cons (len_obl GTerm.c c92_.gKids) (.cons (congrArg AV.bool h88) .nil)) ?_
            rcases oif h87 with ⟨h89, h87⟩ | ⟨h89, h87⟩
            · refine Wc.condT h89 (by kernel_rfl) ?_
              refine Wc.fix (st' := ⟨[(1, (.v (.int .i64 b94_), [])), (2, (.ptr 2 0, [])), (5, (.v (.int .i64 b95_), []))], [(2, .cells [.int .i64 c92_.gKind, .str c92_.gName, .int .i64 c92_.gNum, .sl (List.map GTerm.c c92_.gKids)] [])], []⟩) [] [1, 2, 5] [2] [] (by kernel_rfl) ?_
              refine Wc.skip ?_
              refine Wc.seq ?_
              refine Wc.block ?_
              obtain ⟨c97_, h90, h87⟩ := obind h87
              obtain ⟨b98_, h91, h87⟩ := obind h87
              refine Wc.region [{}, {}, {}, { v := some (.vptr [.int .i64 c97_.gKind, .str c97_.gName, .int .i64 c97_.gNum, .sl (List.map GTerm.c c97_.gKids)]) }, {}, {}, { r := some (.v (.int .i64 b98_) []) }] [] [1, 2, 5] [2] [] ⟨[(1, (.v (.int .i64 b98_), [])), (2, (.ptr 2 0, [])), (5, (.v (.int .i64 b95_), []))], [(2, .cells [.int .i64 c92_.gKind, .str c92_.gName, .int .i64 c92_.gNum, .sl (List.map GTerm.c c92_.gKids)] [])], []⟩ _ (by kernel_rfl) (.cons (at_obl (c := GTerm.c) (GTerm.c_eq c97_) GTerm.c_len h90) (.cons (len_ok 4 [.int .i64 c97_.gKind, .str c97_.gName, .int .i64 c97_.gNum, .sl (List.map GTerm.c c97_.gKids)]) (.cons (ih_pspec_l03Count h91) .nil))) ?_
              refine Wc.region [] [] [1, 2, 5] [2] [] ⟨[(1, (.v (.int .i64 b98_), [])), (2, (.ptr 2 0, [])), (5, (.v (.int .i64 (wr.i64 (b95_ + 1))), []))], [(2, .cells [.int .i64 c92_.gKind, .str c92_.gName, .int .i64 c92_.gNum, .sl (List.map GTerm.c c92_.gKids)] [])], []⟩ _ (by kernel_rfl) .nil ?_
              exact ⟨_, Nat.lt_succ_self _, _, _, rfl, h87⟩
            · refine Wc.condF h89 (by kernel_rfl) ?_
              refine Wc.fix (st' := ⟨[(1, (.v (.int .i64 b94_), []))], [], []⟩) [] [1] [] [] (by kernel_rfl) ?_
              refine Wc.exit ?_
              obtain rfl := Option.some.inj h87
              exact ⟨_, rfl, rfl⟩
          · refine Wc.region [{}, {}, {}, { v := some (.int .i64 (c92_.gKids.length : Int)) }, {}, { re := some (.bool false) }] [] [1, 2, 5, 16] [2] [] ⟨[(1, (.v (.int .i64 b94_), [])), (2, (.ptr 2 0, [])), (5, (.v (.int .i64 b95_), [])), (16, (.v (.bool false), []))], [(2, .cells [.int .i64 c92_.gKind, .str c92_.gName, .int .i64 c92_.gNum, .sl (List.map GTerm.c c92_.gKids)] [])], []⟩ _ (by kernel_rfl) (.cons (len_obl GTerm.c c92_.gKids) (.cons (congrArg AV.bool h88) .nil)) ?_
            refine Wc.condF rfl (by kernel_rfl) ?_
            refine Wc.fix (st' := ⟨[(1, (.v (.int .i64 b94_), []))], [], []⟩) [] [1] [] [] (by kernel_rfl) ?_
            refine Wc.exit ?_
            obtain rfl := Option.some.inj h87
            exact ⟨_, rfl, rfl⟩
      · rintro st ⟨b96_, rfl, rfl⟩
        refine Wc.seq ?_
        refine Wc.region [] [] [4] [] [] ⟨[(4, (.v (.int .i64 b96_), []))], [], []⟩ _ (by kernel_rfl) .nil ?_
        refine Wc.ret ?_
        obtain rfl := Option.some.inj h
        exact ⟨.inl rfl, by kernel_rfl, by kernel_rfl⟩
theorem cspec_l03Count {k : Nat} {c92_ : GTerm} {b93_ : Int} {r : Int} (h : pspec_l03Count k c92_ b93_ = some r) : FnO Try.prog 104 [.v (.agg [.int .i64 c92_.gKind, .str c92_.gName, .int .i64 c92_.gNum, .sl (List.map GTerm.c c92_.gKids)]) [], .v (.int .i64 b93_) []] (.v (.int .i64 r) []) [] := (all_pspec_l03Count k) h

def pspec_l03Name_L1 (k : Nat) (e99_ : ByteArray) : Nat → Int → Option (Out Bool Unit)
  | 0, _ => none
  | m + 1, b100_ =>
    if (decide (b100_ < (e99_.size : Int))) = true then
      if 0 ≤ b100_ ∧ (b100_).toNat < e99_.size then
        if (decide ((bt e99_ b100_) < 33)) = true then
          some (.ret false)
        else
          if 0 ≤ b100_ ∧ (b100_).toNat < e99_.size then
            if (decide ((bt e99_ b100_) > 126)) = true then
              some (.ret false)
            else
              if 0 ≤ b100_ ∧ (b100_).toNat < e99_.size then
                if ((bt e99_ b100_) == 39) = true then
                  some (.ret false)
                else
                  if 0 ≤ b100_ ∧ (b100_).toNat < e99_.size then
                    if ((bt e99_ b100_) == 34) = true then
                      some (.ret false)
                    else
                      pspec_l03Name_L1 k e99_ m (wr.i64 (b100_ + 1))
                  else none
              else none
          else none
      else none
    else
      some (.done ())
/-- spec.l03Name -/
def pspec_l03Name (k : Nat) (e99_ : ByteArray) : Option Bool :=
  (pspec_l03Name_L1 k e99_ k 0).bind fun out1 => match out1 with
  | .ret r => some r
  | .done () =>
    (pspec_l01In k (e99_.size : Int) 1 20).bind fun d101_ =>
    some d101_
theorem cspec_l03Name {k : Nat} {e99_ : ByteArray} {r : Bool} (h : pspec_l03Name k e99_ = some r) : FnO Try.prog 137 [.v (.str e99_) []] (.v (.bool r) []) [] := by
  refine FnO.of Try.func137 (rfl : Try.f137.body = some _) (Nat.le_of_ble_eq_true (by kernel_rfl)) (Nat.le_of_ble_eq_true (by kernel_rfl)) ?_
  intro w0 X0 Fin pv0 pb
  unfold pspec_l03Name at h
  refine Wc.seq ?_
  refine Wc.region [] [] [0] [] [] ⟨[(0, (.v (.str e99_), []))], [], []⟩ _ (by kernel_rfl) .nil ?_
  refine Wc.seq ?_
  refine Wc.seq ?_
  refine Wc.region [] [] [0, 3] [] [] ⟨[(0, (.v (.str e99_), [])), (3, (.v (.int .i64 0), []))], [], []⟩ _ (by kernel_rfl) .nil ?_
  obtain ⟨out1, h92, h⟩ := obind h
  refine Wc.lastJ (fun st => out1 = .done () ∧ st = ⟨[(0, (.v (.str e99_), []))], [], []⟩) ?_ ?_
  · refine Wc.block ?_
    refine Wc.loop (fun m st => ∃ (b100_ : Int), st = ⟨[(0, (.v (.str e99_), [])), (3, (.v (.int .i64 b100_), []))], [], []⟩ ∧ pspec_l03Name_L1 k e99_ m b100_ = some out1) ?_ k ⟨_, rfl, h92⟩
    rintro m st ⟨b100_, rfl, h92⟩
    cases m with
    | zero => exact (onone h92).elim
    | succ m =>
      refine Wc.seq ?_
      refine Wc.seq ?_
      refine Wc.region [] [] [0, 3, 7] [] [] ⟨[(0, (.v (.str e99_), [])), (3, (.v (.int .i64 b100_), [])), (7, (.v (.bool (decide (b100_ < (e99_.size : Int)))), []))], [], []⟩ _ (by kernel_rfl) .nil ?_
      rcases oif h92 with ⟨h93, h92⟩ | ⟨h93, h92⟩
      · refine Wc.condT h93 (by kernel_rfl) ?_
        refine Wc.fix (st' := ⟨[(0, (.v (.str e99_), [])), (3, (.v (.int .i64 b100_), []))], [], []⟩) [] [0, 3] [] [] (by kernel_rfl) ?_
        refine Wc.skip ?_
        refine Wc.seq ?_
        refine Wc.block ?_
        refine Wc.seq ?_
        obtain ⟨h94, h92⟩ := oguard h92
        rcases oif h92 with ⟨h95, h92⟩ | ⟨h95, h92⟩
        · refine Wc.region [{}, {}, {}, {}, { re := some (.bool true) }] [] [0, 3, 31] [] [] ⟨[(0, (.v (.str e99_), [])), (3, (.v (.int .i64 b100_), [])), (31, (.v (.bool true), []))], [], []⟩ _ (by kernel_rfl) (.cons h94 (.cons (congrArg AV.bool h95) .nil)) ?_
          refine Wc.condT rfl (by kernel_rfl) ?_
          refine Wc.seq ?_
          refine Wc.region [] [] [2] [] [] ⟨[(2, (.v (.bool false), []))], [], []⟩ _ (by kernel_rfl) .nil ?_
          refine Wc.ret ?_
          obtain rfl := Option.some.inj h92
          obtain rfl := Option.some.inj h
          exact ⟨.inl rfl, by kernel_rfl, by kernel_rfl⟩
        · obtain ⟨h96, h92⟩ := oguard h92
          rcases oif h92 with ⟨h97, h92⟩ | ⟨h97, h92⟩
          · refine Wc.region [{}, {}, {}, {}, { re := some (.bool false) }, {}, {}, {}, {}, {}, { re := some (.bool true) }] [] [0, 3, 31] [] [] ⟨[(0, (.v (.str e99_), [])), (3, (.v (.int .i64 b100_), [])), (31, (.v (.bool true), []))], [], []⟩ _ (by kernel_rfl) (.cons h94 (.cons (congrArg AV.bool h95) (.cons h96 (.cons (congrArg AV.bool h97) .nil)))) ?_
            refine Wc.condT rfl (by kernel_rfl) ?_
            refine Wc.seq ?_
            refine Wc.region [] [] [2] [] [] ⟨[(2, (.v (.bool false), []))], [], []⟩ _ (by kernel_rfl) .nil ?_
            refine Wc.ret ?_
            obtain rfl := Option.some.inj h92
            obtain rfl := Option.some.inj h
            exact ⟨.inl rfl, by kernel_rfl, by kernel_rfl⟩
          · obtain ⟨h98, h92⟩ := oguard h92
            rcases oif h92 with ⟨h99, h92⟩ | ⟨h99, h92⟩
            · refine Wc.region [{}, {}, {}, {}, { re := some (.bool false) }, {}, {}, {}, {}, {}, { re := some (.bool false) }, {}, {}, {}, {}, {}, { re := some (.bool true) }] [] [0, 3, 31] [] [] ⟨[(0, (.v (.str e99_), [])), (3, (.v (.int .i64 b100_), [])), (31, (.v (.bool true), []))], [], []⟩ _ (by kernel_rfl) (.cons h94 (.cons (congrArg AV.bool h95) (.cons h96 (.cons (congrArg AV.bool h97) (.cons h98 (.cons (congrArg AV.bool h99) .nil)))))) ?_
              refine Wc.condT rfl (by kernel_rfl) ?_
              refine Wc.seq ?_
              refine Wc.region [] [] [2] [] [] ⟨[(2, (.v (.bool false), []))], [], []⟩ _ (by kernel_rfl) .nil ?_
              refine Wc.ret ?_
              obtain rfl := Option.some.inj h92
              obtain rfl := Option.some.inj h
              exact ⟨.inl rfl, by kernel_rfl, by kernel_rfl⟩
            · obtain ⟨h100, h92⟩ := oguard h92
              refine Wc.region [{}, {}, {}, {}, { re := some (.bool false) }, {}, {}, {}, {}, {}, { re := some (.bool false) }, {}, {}, {}, {}, {}, { re := some (.bool false) }] [] [0, 3, 31] [] [] ⟨[(0, (.v (.str e99_), [])), (3, (.v (.int .i64 b100_), [])), (31, (.v (.bool ((bt e99_ b100_) == 34)), []))], [], []⟩ _ (by kernel_rfl) (.cons h94 (.cons (congrArg AV.bool h95) (.cons h96 (.cons (congrArg AV.bool h97) (.cons h98 (.cons (congrArg AV.bool h99) (.cons h100 .nil))))))) ?_
              rcases oif h92 with ⟨h101, h92⟩ | ⟨h101, h92⟩
              · refine Wc.condT h101 (by kernel_rfl) ?_
                refine Wc.seq ?_
                refine Wc.region [] [] [2] [] [] ⟨[(2, (.v (.bool false), []))], [], []⟩ _ (by kernel_rfl) .nil ?_
                refine Wc.ret ?_
                obtain rfl := Option.some.inj h92
                obtain rfl := Option.some.inj h
                exact ⟨.inl rfl, by kernel_rfl, by kernel_rfl⟩
              · refine Wc.condF h101 (by kernel_rfl) ?_
                refine Wc.fix (st' := ⟨[(0, (.v (.str e99_), [])), (3, (.v (.int .i64 b100_), []))], [], []⟩) [] [0, 3] [] [] (by kernel_rfl) ?_
                refine Wc.skip ?_
                refine Wc.region [] [] [0, 3] [] [] ⟨[(0, (.v (.str e99_), [])), (3, (.v (.int .i64 (wr.i64 (b100_ + 1))), []))], [], []⟩ _ (by kernel_rfl) .nil ?_
                exact ⟨_, Nat.lt_succ_self _, _, rfl, h92⟩
      · refine Wc.condF h93 (by kernel_rfl) ?_
        refine Wc.fix (st' := ⟨[(0, (.v (.str e99_), []))], [], []⟩) [] [0] [] [] (by kernel_rfl) ?_
        refine Wc.exit ?_
        obtain rfl := Option.some.inj h92
        exact ⟨rfl, rfl⟩
  · rintro st ⟨rfl, rfl⟩
    refine Wc.seq ?_
    obtain ⟨d101_, h102, h⟩ := obind h
    refine Wc.region [{}, {}, { r := some (.v (.bool d101_) []) }] [] [2] [] [] ⟨[(2, (.v (.bool d101_), []))], [], []⟩ _ (by kernel_rfl) (.cons (cspec_l01In h102) .nil) ?_
    refine Wc.ret ?_
    obtain rfl := Option.some.inj h
    exact ⟨.inl rfl, by kernel_rfl, by kernel_rfl⟩

/-- spec.l03One -/
def pspec_l03One (k : Nat) (c102_ : GTerm) : Option Bool :=
  if (c102_.gKind == 1) = true then
    (pspec_l01In k c102_.gNum 0 99999).bind fun d103_ =>
    if d103_ = true then
      if (sEq c102_.gName (bs [])) = true then
        some ((c102_.gKids.length : Int) == 0)
      else
        some false
    else
      some false
  else
    if (c102_.gKind == 2) = true then
      (pspec_l03Name k c102_.gName).bind fun d104_ =>
      if d104_ = true then
        if (c102_.gNum == 0) = true then
          some ((c102_.gKids.length : Int) == 0)
        else
          some false
      else
        some false
    else
      if (c102_.gKind == 3) = true then
        (pspec_l01In k c102_.gNum (-999999999) 999999999).bind fun d105_ =>
        if d105_ = true then
          if (sEq c102_.gName (bs [])) = true then
            some ((c102_.gKids.length : Int) == 0)
          else
            some false
        else
          some false
      else
        if (c102_.gKind == 4) = true then
          (pspec_l03Name k c102_.gName).bind fun d106_ =>
          if d106_ = true then
            if (c102_.gNum == 0) = true then
              (pspec_l01In k (c102_.gKids.length : Int) 1 5).bind fun d107_ =>
              some d107_
            else
              some false
          else
            some false
        else
          some false
theorem cspec_l03One {k : Nat} {c102_ : GTerm} {r : Bool} (h : pspec_l03One k c102_ = some r) : FnO Try.prog 130 [.v (.agg [.int .i64 c102_.gKind, .str c102_.gName, .int .i64 c102_.gNum, .sl (List.map GTerm.c c102_.gKids)]) []] (.v (.bool r) []) [] := by
  refine FnO.of Try.func130 (rfl : Try.f130.body = some _) (Nat.le_of_ble_eq_true (by kernel_rfl)) (Nat.le_of_ble_eq_true (by kernel_rfl)) ?_
  intro w0 X0 Fin pv0 pb
  unfold pspec_l03One at h
  refine Wc.seq ?_
  refine Wc.region [] [] [1] [1] [] ⟨[(1, (.ptr 1 0, []))], [(1, .cells [.int .i64 c102_.gKind, .str c102_.gName, .int .i64 c102_.gNum, .sl (List.map GTerm.c c102_.gKids)] [])], []⟩ _ (by kernel_rfl) .nil ?_
  refine Wc.seq ?_
  refine Wc.seq ?_
  refine Wc.region [] [] [1, 4] [1] [] ⟨[(1, (.ptr 1 0, [])), (4, (.v (.int .i64 c102_.gKind), []))], [(1, .cells [.int .i64 c102_.gKind, .str c102_.gName, .int .i64 c102_.gNum, .sl (List.map GTerm.c c102_.gKids)] [])], []⟩ _ (by kernel_rfl) .nil ?_
  refine Wc.block ?_
  refine Wc.seq ?_
  refine Wc.region [] [] [1, 4, 5] [1] [] ⟨[(1, (.ptr 1 0, [])), (4, (.v (.int .i64 c102_.gKind), [])), (5, (.v (.bool (c102_.gKind == 1)), []))], [(1, .cells [.int .i64 c102_.gKind, .str c102_.gName, .int .i64 c102_.gNum, .sl (List.map GTerm.c c102_.gKids)] [])], []⟩ _ (by kernel_rfl) .nil ?_
  rcases oif h with ⟨h103, h⟩ | ⟨h103, h⟩
  · refine Wc.condT h103 (by kernel_rfl) ?_
    refine Wc.seq ?_
    obtain ⟨d103_, h104, h⟩ := obind h
    rcases oif h with ⟨h105, h⟩ | ⟨h105, h⟩
    · rcases oif h with ⟨h106, h⟩ | ⟨h106, h⟩
      · refine Wc.region [{}, {}, { r := some (.v (.bool d103_) []) }, { re := some (.bool true) }, {}, {}, {}, {}, { re := some (.bool true) }, {}, {}, { v := some (.int .i64 (c102_.gKids.length : Int)) }] [] [2] [] [] ⟨[(2, (.v (.bool ((c102_.gKids.length : Int) == 0)), []))], [], []⟩ _ (by kernel_rfl) (.cons (cspec_l01In h104) (.cons (congrArg AV.bool h105) (.cons (congrArg AV.bool h106) (.cons (len_obl GTerm.c c102_.gKids) .nil)))) ?_
        refine Wc.ret ?_
        obtain rfl := Option.some.inj h
        exact ⟨.inl rfl, by kernel_rfl, by kernel_rfl⟩
      · refine Wc.region [{}, {}, { r := some (.v (.bool d103_) []) }, { re := some (.bool true) }, {}, {}, {}, {}, { re := some (.bool false) }] [] [2] [] [] ⟨[(2, (.v (.bool false), []))], [], []⟩ _ (by kernel_rfl) (.cons (cspec_l01In h104) (.cons (congrArg AV.bool h105) (.cons (congrArg AV.bool h106) .nil))) ?_
        refine Wc.ret ?_
        obtain rfl := Option.some.inj h
        exact ⟨.inl rfl, by kernel_rfl, by kernel_rfl⟩
    · refine Wc.region [{}, {}, { r := some (.v (.bool d103_) []) }, { re := some (.bool false) }] [] [2] [] [] ⟨[(2, (.v (.bool false), []))], [], []⟩ _ (by kernel_rfl) (.cons (cspec_l01In h104) (.cons (congrArg AV.bool h105) .nil)) ?_
      refine Wc.ret ?_
      obtain rfl := Option.some.inj h
      exact ⟨.inl rfl, by kernel_rfl, by kernel_rfl⟩
  · refine Wc.condF h103 (by kernel_rfl) ?_
    refine Wc.seq ?_
    refine Wc.region [] [] [1, 4, 21] [1] [] ⟨[(1, (.ptr 1 0, [])), (4, (.v (.int .i64 c102_.gKind), [])), (21, (.v (.bool (c102_.gKind == 2)), []))], [(1, .cells [.int .i64 c102_.gKind, .str c102_.gName, .int .i64 c102_.gNum, .sl (List.map GTerm.c c102_.gKids)] [])], []⟩ _ (by kernel_rfl) .nil ?_
    rcases oif h with ⟨h107, h⟩ | ⟨h107, h⟩
    · refine Wc.condT h107 (by kernel_rfl) ?_
      refine Wc.seq ?_
      obtain ⟨d104_, h108, h⟩ := obind h
      rcases oif h with ⟨h109, h⟩ | ⟨h109, h⟩
      · rcases oif h with ⟨h110, h⟩ | ⟨h110, h⟩
        · refine Wc.region [{}, {}, { r := some (.v (.bool d104_) []) }, { re := some (.bool true) }, {}, {}, {}, {}, { re := some (.bool true) }, {}, {}, { v := some (.int .i64 (c102_.gKids.length : Int)) }] [] [2] [] [] ⟨[(2, (.v (.bool ((c102_.gKids.length : Int) == 0)), []))], [], []⟩ _ (by kernel_rfl) (.cons (cspec_l03Name h108) (.cons (congrArg AV.bool h109) (.cons (congrArg AV.bool h110) (.cons (len_obl GTerm.c c102_.gKids) .nil)))) ?_
          refine Wc.ret ?_
          obtain rfl := Option.some.inj h
          exact ⟨.inl rfl, by kernel_rfl, by kernel_rfl⟩
        · refine Wc.region [{}, {}, { r := some (.v (.bool d104_) []) }, { re := some (.bool true) }, {}, {}, {}, {}, { re := some (.bool false) }] [] [2] [] [] ⟨[(2, (.v (.bool false), []))], [], []⟩ _ (by kernel_rfl) (.cons (cspec_l03Name h108) (.cons (congrArg AV.bool h109) (.cons (congrArg AV.bool h110) .nil))) ?_
          refine Wc.ret ?_
          obtain rfl := Option.some.inj h
          exact ⟨.inl rfl, by kernel_rfl, by kernel_rfl⟩
      · refine Wc.region [{}, {}, { r := some (.v (.bool d104_) []) }, { re := some (.bool false) }] [] [2] [] [] ⟨[(2, (.v (.bool false), []))], [], []⟩ _ (by kernel_rfl) (.cons (cspec_l03Name h108) (.cons (congrArg AV.bool h109) .nil)) ?_
        refine Wc.ret ?_
        obtain rfl := Option.some.inj h
        exact ⟨.inl rfl, by kernel_rfl, by kernel_rfl⟩
    · refine Wc.condF h107 (by kernel_rfl) ?_
      refine Wc.seq ?_
      refine Wc.region [] [] [1, 4, 37] [1] [] ⟨[(1, (.ptr 1 0, [])), (4, (.v (.int .i64 c102_.gKind), [])), (37, (.v (.bool (c102_.gKind == 3)), []))], [(1, .cells [.int .i64 c102_.gKind, .str c102_.gName, .int .i64 c102_.gNum, .sl (List.map GTerm.c c102_.gKids)] [])], []⟩ _ (by kernel_rfl) .nil ?_
      rcases oif h with ⟨h111, h⟩ | ⟨h111, h⟩
      · refine Wc.condT h111 (by kernel_rfl) ?_
        refine Wc.seq ?_
        obtain ⟨d105_, h112, h⟩ := obind h
        rcases oif h with ⟨h113, h⟩ | ⟨h113, h⟩
        · rcases oif h with ⟨h114, h⟩ | ⟨h114, h⟩
          · refine Wc.region [{}, {}, { r := some (.v (.bool d105_) []) }, { re := some (.bool true) }, {}, {}, {}, {}, { re := some (.bool true) }, {}, {}, { v := some (.int .i64 (c102_.gKids.length : Int)) }] [] [2] [] [] ⟨[(2, (.v (.bool ((c102_.gKids.length : Int) == 0)), []))], [], []⟩ _ (by kernel_rfl) (.cons (cspec_l01In h112) (.cons (congrArg AV.bool h113) (.cons (congrArg AV.bool h114) (.cons (len_obl GTerm.c c102_.gKids) .nil)))) ?_
            refine Wc.ret ?_
            obtain rfl := Option.some.inj h
            exact ⟨.inl rfl, by kernel_rfl, by kernel_rfl⟩
          · refine Wc.region [{}, {}, { r := some (.v (.bool d105_) []) }, { re := some (.bool true) }, {}, {}, {}, {}, { re := some (.bool false) }] [] [2] [] [] ⟨[(2, (.v (.bool false), []))], [], []⟩ _ (by kernel_rfl) (.cons (cspec_l01In h112) (.cons (congrArg AV.bool h113) (.cons (congrArg AV.bool h114) .nil))) ?_
            refine Wc.ret ?_
            obtain rfl := Option.some.inj h
            exact ⟨.inl rfl, by kernel_rfl, by kernel_rfl⟩
        · refine Wc.region [{}, {}, { r := some (.v (.bool d105_) []) }, { re := some (.bool false) }] [] [2] [] [] ⟨[(2, (.v (.bool false), []))], [], []⟩ _ (by kernel_rfl) (.cons (cspec_l01In h112) (.cons (congrArg AV.bool h113) .nil)) ?_
          refine Wc.ret ?_
          obtain rfl := Option.some.inj h
          exact ⟨.inl rfl, by kernel_rfl, by kernel_rfl⟩
      · refine Wc.condF h111 (by kernel_rfl) ?_
        refine Wc.seq ?_
        refine Wc.region [] [] [1, 53] [1] [] ⟨[(1, (.ptr 1 0, [])), (53, (.v (.bool (c102_.gKind == 4)), []))], [(1, .cells [.int .i64 c102_.gKind, .str c102_.gName, .int .i64 c102_.gNum, .sl (List.map GTerm.c c102_.gKids)] [])], []⟩ _ (by kernel_rfl) .nil ?_
        rcases oif h with ⟨h115, h⟩ | ⟨h115, h⟩
        · refine Wc.condT h115 (by kernel_rfl) ?_
          refine Wc.seq ?_
          obtain ⟨d106_, h116, h⟩ := obind h
          rcases oif h with ⟨h117, h⟩ | ⟨h117, h⟩
          · rcases oif h with ⟨h118, h⟩ | ⟨h118, h⟩
            · obtain ⟨d107_, h119, h⟩ := obind h
              refine Wc.region [{}, {}, { r := some (.v (.bool d106_) []) }, { re := some (.bool true) }, {}, {}, {}, {}, { re := some (.bool true) }, {}, {}, { v := some (.int .i64 (c102_.gKids.length : Int)) }, { r := some (.v (.bool d107_) []) }] [] [2] [] [] ⟨[(2, (.v (.bool d107_), []))], [], []⟩ _ (by kernel_rfl) (.cons (cspec_l03Name h116) (.cons (congrArg AV.bool h117) (.cons (congrArg AV.bool h118) (.cons (len_obl GTerm.c c102_.gKids) (.cons (cspec_l01In h119) .nil))))) ?_
              refine Wc.ret ?_
              obtain rfl := Option.some.inj h
              exact ⟨.inl rfl, by kernel_rfl, by kernel_rfl⟩
            · refine Wc.region [{}, {}, { r := some (.v (.bool d106_) []) }, { re := some (.bool true) }, {}, {}, {}, {}, { re := some (.bool false) }] [] [2] [] [] ⟨[(2, (.v (.bool false), []))], [], []⟩ _ (by kernel_rfl) (.cons (cspec_l03Name h116) (.cons (congrArg AV.bool h117) (.cons (congrArg AV.bool h118) .nil))) ?_
              refine Wc.ret ?_
              obtain rfl := Option.some.inj h
              exact ⟨.inl rfl, by kernel_rfl, by kernel_rfl⟩
          · refine Wc.region [{}, {}, { r := some (.v (.bool d106_) []) }, { re := some (.bool false) }] [] [2] [] [] ⟨[(2, (.v (.bool false), []))], [], []⟩ _ (by kernel_rfl) (.cons (cspec_l03Name h116) (.cons (congrArg AV.bool h117) .nil)) ?_
            refine Wc.ret ?_
            obtain rfl := Option.some.inj h
            exact ⟨.inl rfl, by kernel_rfl, by kernel_rfl⟩
        · refine Wc.condF h115 (by kernel_rfl) ?_
          refine Wc.fix (st' := ⟨[], [], []⟩) [] [] [] [] (by kernel_rfl) ?_
          refine Wc.skip ?_
          refine Wc.seq ?_
          refine Wc.region [] [] [2] [] [] ⟨[(2, (.v (.bool false), []))], [], []⟩ _ (by kernel_rfl) .nil ?_
          refine Wc.ret ?_
          obtain rfl := Option.some.inj h
          exact ⟨.inl rfl, by kernel_rfl, by kernel_rfl⟩

def pspec_l03Right_L1 (k : Nat) (rspec_l03Right : GTerm → Int → Option Bool) (c108_ : GTerm) (b109_ : Int) : Nat → Int → Option (Out Bool Unit)
  | 0, _ => none
  | m + 1, b111_ =>
    if (decide (b111_ < (c108_.gKids.length : Int))) = true then
      (at' c108_.gKids b111_).bind fun c112_ =>
      (rspec_l03Right c112_ (wr.i64 (b109_ + 1))).bind fun d113_ =>
      if (!d113_) = true then
        some (.ret false)
      else
        pspec_l03Right_L1 k rspec_l03Right c108_ b109_ m (wr.i64 (b111_ + 1))
    else
      some (.done ())
mutual
/-- spec.l03Right -/
def pspec_l03Right : Nat → GTerm → Int → Option Bool
  | 0, _, _ => none
  | k + 1, c108_, b109_ =>
    if (decide (b109_ > 40)) = true then
      some false
    else
      (pspec_l03One k c108_).bind fun d110_ =>
      if (!d110_) = true then
        some false
      else
        (pspec_l03Right_L1 k (pspec_l03Right k) c108_ b109_ k 0).bind fun out1 => match out1 with
        | .ret r => some r
        | .done () =>
          some true
end
theorem all_pspec_l03Right : ∀ k : Nat, (∀ {c108_ : GTerm} {b109_ : Int} {r : Bool}, pspec_l03Right k c108_ b109_ = some r → FnO Try.prog 105 [.v (.agg [.int .i64 c108_.gKind, .str c108_.gName, .int .i64 c108_.gNum, .sl (List.map GTerm.c c108_.gKids)]) [], .v (.int .i64 b109_) []] (.v (.bool r) []) []) := by
  intro k
  induction k with
  | zero =>
    · intro c108_ b109_ r h
      exact (onone (by rw [pspec_l03Right] at h; exact h)).elim
  | succ k ih =>
    have ih_pspec_l03Right := @ih
    · intro c108_ b109_ r h
      rw [pspec_l03Right] at h
      refine FnO.of Try.func105 (rfl : Try.f105.body = some _) (Nat.le_of_ble_eq_true (by kernel_rfl)) (Nat.le_of_ble_eq_true (by kernel_rfl)) ?_
      intro w0 X0 Fin pv0 pb
      refine Wc.seq ?_
      refine Wc.region [] [] [1, 2] [2] [] ⟨[(1, (.v (.int .i64 b109_), [])), (2, (.ptr 2 0, []))], [(2, .cells [.int .i64 c108_.gKind, .str c108_.gName, .int .i64 c108_.gNum, .sl (List.map GTerm.c c108_.gKids)] [])], []⟩ _ (by kernel_rfl) .nil ?_
      refine Wc.seq ?_
      refine Wc.seq ?_
      rcases oif h with ⟨h120, h⟩ | ⟨h120, h⟩
      · refine Wc.region [{}, {}, { re := some (.bool true) }] [] [1, 2, 12] [2] [] ⟨[(1, (.v (.int .i64 b109_), [])), (2, (.ptr 2 0, [])), (12, (.v (.bool true), []))], [(2, .cells [.int .i64 c108_.gKind, .str c108_.gName, .int .i64 c108_.gNum, .sl (List.map GTerm.c c108_.gKids)] [])], []⟩ _ (by kernel_rfl) (.cons (congrArg AV.bool h120) .nil) ?_
        refine Wc.condT rfl (by kernel_rfl) ?_
        refine Wc.seq ?_
        refine Wc.region [] [] [4] [] [] ⟨[(4, (.v (.bool false), []))], [], []⟩ _ (by kernel_rfl) .nil ?_
        refine Wc.ret ?_
        obtain rfl := Option.some.inj h
        exact ⟨.inl rfl, by kernel_rfl, by kernel_rfl⟩
      · obtain ⟨d110_, h121, h⟩ := obind h
        refine Wc.region [{}, {}, { re := some (.bool false) }, {}, { r := some (.v (.bool d110_) []) }] [] [1, 2, 12] [2] [] ⟨[(1, (.v (.int .i64 b109_), [])), (2, (.ptr 2 0, [])), (12, (.v (.bool (!d110_)), []))], [(2, .cells [.int .i64 c108_.gKind, .str c108_.gName, .int .i64 c108_.gNum, .sl (List.map GTerm.c c108_.gKids)] [])], []⟩ _ (by kernel_rfl) (.cons (congrArg AV.bool h120) (.cons (cspec_l03One h121) .nil)) ?_
        rcases oif h with ⟨h122, h⟩ | ⟨h122, h⟩
        · refine Wc.condT h122 (by kernel_rfl) ?_
          refine Wc.seq ?_
          refine Wc.region [] [] [4] [] [] ⟨[(4, (.v (.bool false), []))], [], []⟩ _ (by kernel_rfl) .nil ?_
          refine Wc.ret ?_
          obtain rfl := Option.some.inj h
          exact ⟨.inl rfl, by kernel_rfl, by kernel_rfl⟩
        · refine Wc.condF h122 (by kernel_rfl) ?_
          refine Wc.fix (st' := ⟨[(1, (.v (.int .i64 b109_), [])), (2, (.ptr 2 0, []))], [(2, .cells [.int .i64 c108_.gKind, .str c108_.gName, .int .i64 c108_.gNum, .sl (List.map GTerm.c c108_.gKids)] [])], []⟩) [] [1, 2] [2] [] (by kernel_rfl) ?_
          refine Wc.skip ?_
          refine Wc.seq ?_
          refine Wc.seq ?_
          refine Wc.region [] [] [1, 2, 5] [2] [] ⟨[(1, (.v (.int .i64 b109_), [])), (2, (.ptr 2 0, [])), (5, (.v (.int .i64 0), []))], [(2, .cells [.int .i64 c108_.gKind, .str c108_.gName, .int .i64 c108_.gNum, .sl (List.map GTerm.c c108_.gKids)] [])], []⟩ _ (by kernel_rfl) .nil ?_
          obtain ⟨out1, h123, h⟩ := obind h
          refine Wc.lastJ (fun st => out1 = .done () ∧ st = ⟨[], [], []⟩) ?_ ?_
          · refine Wc.block ?_
            refine Wc.loop (fun m st => ∃ (b111_ : Int), st = ⟨[(1, (.v (.int .i64 b109_), [])), (2, (.ptr 2 0, [])), (5, (.v (.int .i64 b111_), []))], [(2, .cells [.int .i64 c108_.gKind, .str c108_.gName, .int .i64 c108_.gNum, .sl (List.map GTerm.c c108_.gKids)] [])], []⟩ ∧ pspec_l03Right_L1 k (pspec_l03Right k) c108_ b109_ m b111_ = some out1) ?_ k ⟨_, rfl, h123⟩
            rintro m st ⟨b111_, rfl, h123⟩
            cases m with
            | zero => exact (onone h123).elim
            | succ m =>
              refine Wc.seq ?_
              refine Wc.seq ?_
              refine Wc.region [{}, {}, {}, { v := some (.int .i64 (c108_.gKids.length : Int)) }] [] [1, 2, 5, 17] [2] [] ⟨[(1, (.v (.int .i64 b109_), [])), (2, (.ptr 2 0, [])), (5, (.v (.int .i64 b111_), [])), (17, (.v (.bool (decide (b111_ < (c108_.gKids.length : Int)))), []))], [(2, .cells [.int .i64 c108_.gKind, .str c108_.gName, .int .i64 c108_.gNum, .sl (List.map GTerm.c c108_.gKids)] [])], []⟩ _ (by kernel_rfl) (.cons (len_obl GTerm.c c108_.gKids) .nil) ?_
              rcases oif h123 with ⟨h124, h123⟩ | ⟨h124, h123⟩
              · refine Wc.condT h124 (by kernel_rfl) ?_
                refine Wc.fix (st' := ⟨[(1, (.v (.int .i64 b109_), [])), (2, (.ptr 2 0, [])), (5, (.v (.int .i64 b111_), []))], [(2, .cells [.int .i64 c108_.gKind, .str c108_.gName, .int .i64 c108_.gNum, .sl (List.map GTerm.c c108_.gKids)] [])], []⟩) [] [1, 2, 5] [2] [] (by kernel_rfl) ?_
                refine Wc.skip ?_
                refine Wc.seq ?_
                refine Wc.block ?_
                refine Wc.seq ?_
                obtain ⟨c112_, h125, h123⟩ := obind h123
                obtain ⟨d113_, h126, h123⟩ := obind h123
                refine Wc.region [{}, {}, {}, { v := some (.vptr [.int .i64 c112_.gKind, .str c112_.gName, .int .i64 c112_.gNum, .sl (List.map GTerm.c c112_.gKids)]) }, {}, {}, {}, { r := some (.v (.bool d113_) []) }] [] [1, 2, 5, 28] [2] [] ⟨[(1, (.v (.int .i64 b109_), [])), (2, (.ptr 2 0, [])), (5, (.v (.int .i64 b111_), [])), (28, (.v (.bool (!d113_)), []))], [(2, .cells [.int .i64 c108_.gKind, .str c108_.gName, .int .i64 c108_.gNum, .sl (List.map GTerm.c c108_.gKids)] [])], []⟩ _ (by kernel_rfl) (.cons (at_obl (c := GTerm.c) (GTerm.c_eq c112_) GTerm.c_len h125) (.cons (len_ok 4 [.int .i64 c112_.gKind, .str c112_.gName, .int .i64 c112_.gNum, .sl (List.map GTerm.c c112_.gKids)]) (.cons (ih_pspec_l03Right h126) .nil))) ?_
                rcases oif h123 with ⟨h127, h123⟩ | ⟨h127, h123⟩
                · refine Wc.condT h127 (by kernel_rfl) ?_
                  refine Wc.seq ?_
                  refine Wc.region [] [] [4] [] [] ⟨[(4, (.v (.bool false), []))], [], []⟩ _ (by kernel_rfl) .nil ?_
                  refine Wc.ret ?_
                  obtain rfl := Option.some.inj h123
                  obtain rfl := Option.some.inj h
                  exact ⟨.inl rfl, by kernel_rfl, by kernel_rfl⟩
                · refine Wc.condF h127 (by kernel_rfl) ?_
                  refine Wc.fix (st' := ⟨[(1, (.v (.int .i64 b109_), [])), (2, (.ptr 2 0, [])), (5, (.v (.int .i64 b111_), []))], [(2, .cells [.int .i64 c108_.gKind, .str c108_.gName, .int .i64 c108_.gNum, .sl (List.map GTerm.c c108_.gKids)] [])], []⟩) [] [1, 2, 5] [2] [] (by kernel_rfl) ?_
                  refine Wc.skip ?_
                  refine Wc.region [] [] [1, 2, 5] [2] [] ⟨[(1, (.v (.int .i64 b109_), [])), (2, (.ptr 2 0, [])), (5, (.v (.int .i64 (wr.i64 (b111_ + 1))), []))], [(2, .cells [.int .i64 c108_.gKind, .str c108_.gName, .int .i64 c108_.gNum, .sl (List.map GTerm.c c108_.gKids)] [])], []⟩ _ (by kernel_rfl) .nil ?_
                  exact ⟨_, Nat.lt_succ_self _, _, rfl, h123⟩
              · refine Wc.condF h124 (by kernel_rfl) ?_
                refine Wc.fix (st' := ⟨[], [], []⟩) [] [] [] [] (by kernel_rfl) ?_
                refine Wc.exit ?_
                obtain rfl := Option.some.inj h123
                exact ⟨rfl, rfl⟩
          · rintro st ⟨rfl, rfl⟩
            refine Wc.seq ?_
            refine Wc.region [] [] [4] [] [] ⟨[(4, (.v (.bool true), []))], [], []⟩ _ (by kernel_rfl) .nil ?_
            refine Wc.ret ?_
            obtain rfl := Option.some.inj h
            exact ⟨.inl rfl, by kernel_rfl, by kernel_rfl⟩
theorem cspec_l03Right {k : Nat} {c108_ : GTerm} {b109_ : Int} {r : Bool} (h : pspec_l03Right k c108_ b109_ = some r) : FnO Try.prog 105 [.v (.agg [.int .i64 c108_.gKind, .str c108_.gName, .int .i64 c108_.gNum, .sl (List.map GTerm.c c108_.gKids)]) [], .v (.int .i64 b109_) []] (.v (.bool r) []) [] := (all_pspec_l03Right k) h

/-- spec.TermOk -/
def pspec_TermOk (k : Nat) (c114_ : GTerm) : Option Bool :=
  (pspec_l03Count k c114_ 400).bind fun b115_ =>
  if (decide (b115_ ≥ 0)) = true then
    (pspec_l03Right k c114_ 1).bind fun d116_ =>
    some d116_
  else
    some false
theorem cspec_TermOk {k : Nat} {c114_ : GTerm} {r : Bool} (h : pspec_TermOk k c114_ = some r) : FnO Try.prog 65 [.v (.agg [.int .i64 c114_.gKind, .str c114_.gName, .int .i64 c114_.gNum, .sl (List.map GTerm.c c114_.gKids)]) []] (.v (.bool r) []) [] := by
  refine FnO.of Try.func65 (rfl : Try.f65.body = some _) (Nat.le_of_ble_eq_true (by kernel_rfl)) (Nat.le_of_ble_eq_true (by kernel_rfl)) ?_
  intro w0 X0 Fin pv0 pb
  unfold pspec_TermOk at h
  refine Wc.seq ?_
  refine Wc.region [] [] [1] [1] [] ⟨[(1, (.ptr 1 0, []))], [(1, .cells [.int .i64 c114_.gKind, .str c114_.gName, .int .i64 c114_.gNum, .sl (List.map GTerm.c c114_.gKids)] [])], []⟩ _ (by kernel_rfl) .nil ?_
  refine Wc.seq ?_
  obtain ⟨b115_, h128, h⟩ := obind h
  rcases oif h with ⟨h129, h⟩ | ⟨h129, h⟩
  · obtain ⟨d116_, h130, h⟩ := obind h
    refine Wc.region [{}, { r := some (.v (.int .i64 b115_) []) }, {}, { re := some (.bool true) }, {}, { r := some (.v (.bool d116_) []) }] [] [2] [] [] ⟨[(2, (.v (.bool d116_), []))], [], []⟩ _ (by kernel_rfl) (.cons (cspec_l03Count h128) (.cons (congrArg AV.bool h129) (.cons (cspec_l03Right h130) .nil))) ?_
    refine Wc.ret ?_
    obtain rfl := Option.some.inj h
    exact ⟨.inl rfl, by kernel_rfl, by kernel_rfl⟩
  · refine Wc.region [{}, { r := some (.v (.int .i64 b115_) []) }, {}, { re := some (.bool false) }] [] [2] [] [] ⟨[(2, (.v (.bool false), []))], [], []⟩ _ (by kernel_rfl) (.cons (cspec_l03Count h128) (.cons (congrArg AV.bool h129) .nil)) ?_
    refine Wc.ret ?_
    obtain rfl := Option.some.inj h
    exact ⟨.inl rfl, by kernel_rfl, by kernel_rfl⟩

/-- spec.l12Form -/
def pspec_l12Form (k : Nat) (g117_ : GIns) : Option Bool :=
  if (g117_.gOp == 1) = true then
    if (g117_.gNum == 0) = true then
      some (g117_.gMany == 0)
    else
      some false
  else
    if (g117_.gOp == 5) = true then
      some (g117_.gNum == 0)
    else
      if (sEq g117_.gName (bs [])) = true then
        some (g117_.gMany == 0)
      else
        some false
theorem cspec_l12Form {k : Nat} {g117_ : GIns} {r : Bool} (h : pspec_l12Form k g117_ = some r) : FnO Try.prog 66 [.v (.agg [.int .i64 g117_.gOp, .str g117_.gName, .int .i64 g117_.gNum, .int .i64 g117_.gMany]) []] (.v (.bool r) []) [] := by
  refine FnO.of Try.func66 (rfl : Try.f66.body = some _) (Nat.le_of_ble_eq_true (by kernel_rfl)) (Nat.le_of_ble_eq_true (by kernel_rfl)) ?_
  intro w0 X0 Fin pv0 pb
  unfold pspec_l12Form at h
  refine Wc.seq ?_
  refine Wc.region [] [] [1] [1] [] ⟨[(1, (.ptr 1 0, []))], [(1, .cells [.int .i64 g117_.gOp, .str g117_.gName, .int .i64 g117_.gNum, .int .i64 g117_.gMany] [])], []⟩ _ (by kernel_rfl) .nil ?_
  refine Wc.seq ?_
  refine Wc.seq ?_
  refine Wc.region [] [] [1, 4] [1] [] ⟨[(1, (.ptr 1 0, [])), (4, (.v (.int .i64 g117_.gOp), []))], [(1, .cells [.int .i64 g117_.gOp, .str g117_.gName, .int .i64 g117_.gNum, .int .i64 g117_.gMany] [])], []⟩ _ (by kernel_rfl) .nil ?_
  refine Wc.block ?_
  refine Wc.seq ?_
  refine Wc.region [] [] [1, 4, 5] [1] [] ⟨[(1, (.ptr 1 0, [])), (4, (.v (.int .i64 g117_.gOp), [])), (5, (.v (.bool (g117_.gOp == 1)), []))], [(1, .cells [.int .i64 g117_.gOp, .str g117_.gName, .int .i64 g117_.gNum, .int .i64 g117_.gMany] [])], []⟩ _ (by kernel_rfl) .nil ?_
  rcases oif h with ⟨h131, h⟩ | ⟨h131, h⟩
  · refine Wc.condT h131 (by kernel_rfl) ?_
    refine Wc.seq ?_
    rcases oif h with ⟨h132, h⟩ | ⟨h132, h⟩
    · refine Wc.region [{}, {}, {}, { re := some (.bool true) }] [] [2] [] [] ⟨[(2, (.v (.bool (g117_.gMany == 0)), []))], [], []⟩ _ (by kernel_rfl) (.cons (congrArg AV.bool h132) .nil) ?_
      refine Wc.ret ?_
      obtain rfl := Option.some.inj h
      exact ⟨.inl rfl, by kernel_rfl, by kernel_rfl⟩
    · refine Wc.region [{}, {}, {}, { re := some (.bool false) }] [] [2] [] [] ⟨[(2, (.v (.bool false), []))], [], []⟩ _ (by kernel_rfl) (.cons (congrArg AV.bool h132) .nil) ?_
      refine Wc.ret ?_
      obtain rfl := Option.some.inj h
      exact ⟨.inl rfl, by kernel_rfl, by kernel_rfl⟩
  · refine Wc.condF h131 (by kernel_rfl) ?_
    refine Wc.seq ?_
    refine Wc.region [] [] [1, 15] [1] [] ⟨[(1, (.ptr 1 0, [])), (15, (.v (.bool (g117_.gOp == 5)), []))], [(1, .cells [.int .i64 g117_.gOp, .str g117_.gName, .int .i64 g117_.gNum, .int .i64 g117_.gMany] [])], []⟩ _ (by kernel_rfl) .nil ?_
    rcases oif h with ⟨h133, h⟩ | ⟨h133, h⟩
    · refine Wc.condT h133 (by kernel_rfl) ?_
      refine Wc.seq ?_
      refine Wc.region [] [] [2] [] [] ⟨[(2, (.v (.bool (g117_.gNum == 0)), []))], [], []⟩ _ (by kernel_rfl) .nil ?_
      refine Wc.ret ?_
      obtain rfl := Option.some.inj h
      exact ⟨.inl rfl, by kernel_rfl, by kernel_rfl⟩
    · refine Wc.condF h133 (by kernel_rfl) ?_
      refine Wc.fix (st' := ⟨[(1, (.ptr 1 0, []))], [(1, .cells [.int .i64 g117_.gOp, .str g117_.gName, .int .i64 g117_.gNum, .int .i64 g117_.gMany] [])], []⟩) [] [1] [1] [] (by kernel_rfl) ?_
      refine Wc.skip ?_
      refine Wc.seq ?_
      rcases oif h with ⟨h134, h⟩ | ⟨h134, h⟩
      · refine Wc.region [{}, {}, {}, { re := some (.bool true) }] [] [2] [] [] ⟨[(2, (.v (.bool (g117_.gMany == 0)), []))], [], []⟩ _ (by kernel_rfl) (.cons (congrArg AV.bool h134) .nil) ?_
        refine Wc.ret ?_
        obtain rfl := Option.some.inj h
        exact ⟨.inl rfl, by kernel_rfl, by kernel_rfl⟩
      · refine Wc.region [{}, {}, {}, { re := some (.bool false) }] [] [2] [] [] ⟨[(2, (.v (.bool false), []))], [], []⟩ _ (by kernel_rfl) (.cons (congrArg AV.bool h134) .nil) ?_
        refine Wc.ret ?_
        obtain rfl := Option.some.inj h
        exact ⟨.inl rfl, by kernel_rfl, by kernel_rfl⟩

def pspec_TermOf_L1 (k : Nat) (i124_ : List GIns) : Nat → Int → Option (Out (GTerm × Bool) Unit)
  | 0, _ => none
  | m + 1, b127_ =>
    if (decide (b127_ < (i124_.length : Int))) = true then
      (at' i124_ b127_).bind fun g128_ =>
      (pspec_l12Form k g128_).bind fun d129_ =>
      if (!d129_) = true then
        some (.ret (GTerm.mk 0 (bs []) 0 [], false))
      else
        pspec_TermOf_L1 k i124_ m (wr.i64 (b127_ + 1))
    else
      some (.done ())
/-- spec.TermOf -/
def pspec_TermOf (k : Nat) (i124_ : List GIns) : Option (GTerm × Bool) :=
  (pspec_l12Term k i124_ 0 1).bind fun j125_ =>
  if (j125_.2 != (i124_.length : Int)) = true then
    some (GTerm.mk 0 (bs []) 0 [], false)
  else
    (pspec_TermOk k (GTerm.mk j125_.1.gKind j125_.1.gName j125_.1.gNum j125_.1.gKids)).bind fun d126_ =>
    if (!d126_) = true then
      some (GTerm.mk 0 (bs []) 0 [], false)
    else
      (pspec_TermOf_L1 k i124_ k 0).bind fun out1 => match out1 with
      | .ret r => some r
      | .done () =>
        some (GTerm.mk j125_.1.gKind j125_.1.gName j125_.1.gNum j125_.1.gKids, true)
theorem cspec_TermOf {k : Nat} {i124_ : List GIns} {r : GTerm × Bool} (h : pspec_TermOf k i124_ = some r) : FnO Try.prog 24 [.v (.sl (List.map GIns.c i124_)) []] (.v (.tup [.agg [.int .i64 r.1.gKind, .str r.1.gName, .int .i64 r.1.gNum, .sl (List.map GTerm.c r.1.gKids)], .bool r.2]) [(3, .app 37)]) [] := by
  refine FnO.of Try.func24 (rfl : Try.f24.body = some _) (Nat.le_of_ble_eq_true (by kernel_rfl)) (Nat.le_of_ble_eq_true (by kernel_rfl)) ?_
  intro w0 X0 Fin pv0 pb
  unfold pspec_TermOf at h
  refine Wc.seq ?_
  refine Wc.region [] [] [0, 2] [2] [] ⟨[(0, (.v (.sl (List.map GIns.c i124_)), [])), (2, (.ptr 2 0, []))], [(2, .cells [.int .i64 0, .str (bs []), .int .i64 0, .sl (List.map GTerm.c [])] [(3, .app 37)])], []⟩ _ (by kernel_rfl) .nil ?_
  refine Wc.seq ?_
  obtain ⟨j125_, h144, h⟩ := obind h
  refine Wc.region [{}, { r := some (.v (.tup [.agg [.int .i64 j125_.1.gKind, .str j125_.1.gName, .int .i64 j125_.1.gNum, .sl (List.map GTerm.c j125_.1.gKids)], .int .i64 j125_.2]) [(3, .app 37)]) }, { tk := [9] }, { tk := [7] }, {}, {}, { tk := [10] }] [] [0, 2, 4, 5] [2, 4] [] ⟨[(0, (.v (.sl (List.map GIns.c i124_)), [])), (2, (.ptr 2 0, [])), (4, (.ptr 4 0, [])), (5, (.v (.int .i64 j125_.2), []))], [(2, .cells [.int .i64 0, .str (bs []), .int .i64 0, .sl (List.map GTerm.c [])] [(3, .app 37)]), (4, .cells [.int .i64 j125_.1.gKind, .str j125_.1.gName, .int .i64 j125_.1.gNum, .sl (List.map GTerm.c j125_.1.gKids)] [(3, .app 37)])], []⟩ _ (by kernel_rfl) (.cons (cspec_l12Term h144) .nil) ?_
  refine Wc.seq ?_
  refine Wc.seq ?_
  rcases oif h with ⟨h145, h⟩ | ⟨h145, h⟩
  · refine Wc.region [{}, {}, { v := some (.int .i64 (i124_.length : Int)) }, {}, { re := some (.bool true) }] [] [0, 2, 4, 20] [2, 4] [] ⟨[(0, (.v (.sl (List.map GIns.c i124_)), [])), (2, (.ptr 2 0, [])), (4, (.ptr 4 0, [])), (20, (.v (.bool true), []))], [(2, .cells [.int .i64 0, .str (bs []), .int .i64 0, .sl (List.map GTerm.c [])] [(3, .app 37)]), (4, .cells [.int .i64 j125_.1.gKind, .str j125_.1.gName, .int .i64 j125_.1.gNum, .sl (List.map GTerm.c j125_.1.gKids)] [(3, .app 37)])], []⟩ _ (by kernel_rfl) (.cons (len_obl GIns.c i124_) (.cons (congrArg AV.bool h145) .nil)) ?_
    refine Wc.condT rfl (by kernel_rfl) ?_
    refine Wc.seq ?_
    refine Wc.region [{}, { tk := [21] }] [] [2, 3] [2] [] ⟨[(2, (.ptr 2 0, [])), (3, (.v (.bool false), []))], [(2, .cells [.int .i64 0, .str (bs []), .int .i64 0, .sl (List.map GTerm.c [])] [(3, .app 37)])], []⟩ _ (by kernel_rfl) .nil ?_
    refine Wc.ret ?_
    obtain rfl := Option.some.inj h
    exact ⟨.inl rfl, by kernel_rfl, by kernel_rfl⟩
  · obtain ⟨d126_, h146, h⟩ := obind h
    refine Wc.region [{}, {}, { v := some (.int .i64 (i124_.length : Int)) }, {}, { re := some (.bool false) }, {}, { r := some (.v (.bool d126_) []) }] [] [0, 2, 4, 20] [2, 4] [] ⟨[(0, (.v (.sl (List.map GIns.c i124_)), [])), (2, (.ptr 2 0, [])), (4, (.ptr 4 0, [])), (20, (.v (.bool (!d126_)), []))], [(2, .cells [.int .i64 0, .str (bs []), .int .i64 0, .sl (List.map GTerm.c [])] [(3, .app 37)]), (4, .cells [.int .i64 j125_.1.gKind, .str j125_.1.gName, .int .i64 j125_.1.gNum, .sl (List.map GTerm.c j125_.1.gKids)] [(3, .app 37)])], []⟩ _ (by kernel_rfl) (.cons (len_obl GIns.c i124_) (.cons (congrArg AV.bool h145) (.cons (cspec_TermOk h146) .nil))) ?_
    rcases oif h with ⟨h147, h⟩ | ⟨h147, h⟩
    · refine Wc.condT h147 (by kernel_rfl) ?_
      refine Wc.seq ?_
      refine Wc.region [{}, { tk := [21] }] [] [2, 3] [2] [] ⟨[(2, (.ptr 2 0, [])), (3, (.v (.bool false), []))], [(2, .cells [.int .i64 0, .str (bs []), .int .i64 0, .sl (List.map GTerm.c [])] [(3, .app 37)])], []⟩ _ (by kernel_rfl) .nil ?_
      refine Wc.ret ?_
      obtain rfl := Option.some.inj h
      exact ⟨.inl rfl, by kernel_rfl, by kernel_rfl⟩
    · refine Wc.condF h147 (by kernel_rfl) ?_
      refine Wc.fix (st' := ⟨[(0, (.v (.sl (List.map GIns.c i124_)), [])), (2, (.ptr 2 0, [])), (4, (.ptr 4 0, []))], [(2, .cells [.int .i64 0, .str (bs []), .int .i64 0, .sl (List.map GTerm.c [])] [(3, .app 37)]), (4, .cells [.int .i64 j125_.1.gKind, .str j125_.1.gName, .int .i64 j125_.1.gNum, .sl (List.map GTerm.c j125_.1.gKids)] [(3, .app 37)])], []⟩) [] [0, 2, 4] [2, 4] [] (by kernel_rfl) ?_
      refine Wc.skip ?_
      refine Wc.seq ?_
      refine Wc.seq ?_
      refine Wc.region [] [] [0, 2, 4, 6] [2, 4] [] ⟨[(0, (.v (.sl (List.map GIns.c i124_)), [])), (2, (.ptr 2 0, [])), (4, (.ptr 4 0, [])), (6, (.v (.int .i64 0), []))], [(2, .cells [.int .i64 0, .str (bs []), .int .i64 0, .sl (List.map GTerm.c [])] [(3, .app 37)]), (4, .cells [.int .i64 j125_.1.gKind, .str j125_.1.gName, .int .i64 j125_.1.gNum, .sl (List.map GTerm.c j125_.1.gKids)] [(3, .app 37)])], []⟩ _ (by kernel_rfl) .nil ?_
      obtain ⟨out1, h148, h⟩ := obind h
      refine Wc.lastJ (fun st => out1 = .done () ∧ st = ⟨[(2, (.ptr 2 0, [])), (4, (.ptr 4 0, []))], [(2, .cells [.int .i64 0, .str (bs []), .int .i64 0, .sl (List.map GTerm.c [])] [(3, .app 37)]), (4, .cells [.int .i64 j125_.1.gKind, .str j125_.1.gName, .int .i64 j125_.1.gNum, .sl (List.map GTerm.c j125_.1.gKids)] [(3, .app 37)])], []⟩) ?_ ?_
      · refine Wc.block ?_
        refine Wc.loop (fun m st => ∃ (b127_ : Int), st = ⟨[(0, (.v (.sl (List.map GIns.c i124_)), [])), (2, (.ptr 2 0, [])), (4, (.ptr 4 0, [])), (6, (.v (.int .i64 b127_), []))], [(2, .cells [.int .i64 0, .str (bs []), .int .i64 0, .sl (List.map GTerm.c [])] [(3, .app 37)]), (4, .cells [.int .i64 j125_.1.gKind, .str j125_.1.gName, .int .i64 j125_.1.gNum, .sl (List.map GTerm.c j125_.1.gKids)] [(3, .app 37)])], []⟩ ∧ pspec_TermOf_L1 k i124_ m b127_ = some out1) ?_ k ⟨_, rfl, h148⟩
        rintro m st ⟨b127_, rfl, h148⟩
        cases m with
        | zero => exact (onone h148).elim
        | succ m =>
          refine Wc.seq ?_
          refine Wc.seq ?_
          refine Wc.region [{}, {}, { v := some (.int .i64 (i124_.length : Int)) }] [] [0, 2, 4, 6, 25] [2, 4] [] ⟨[(0, (.v (.sl (List.map GIns.c i124_)), [])), (2, (.ptr 2 0, [])), (4, (.ptr 4 0, [])), (6, (.v (.int .i64 b127_), [])), (25, (.v (.bool (decide (b127_ < (i124_.length : Int)))), []))], [(2, .cells [.int .i64 0, .str (bs []), .int .i64 0, .sl (List.map GTerm.c [])] [(3, .app 37)]), (4, .cells [.int .i64 j125_.1.gKind, .str j125_.1.gName, .int .i64 j125_.1.gNum, .sl (List.map GTerm.c j125_.1.gKids)] [(3, .app 37)])], []⟩ _ (by kernel_rfl) (.cons (len_obl GIns.c i124_) .nil) ?_
          rcases oif h148 with ⟨h149, h148⟩ | ⟨h149, h148⟩
          · refine Wc.condT h149 (by kernel_rfl) ?_
            refine Wc.fix (st' := ⟨[(0, (.v (.sl (List.map GIns.c i124_)), [])), (2, (.ptr 2 0, [])), (4, (.ptr 4 0, [])), (6, (.v (.int .i64 b127_), []))], [(2, .cells [.int .i64 0, .str (bs []), .int .i64 0, .sl (List.map GTerm.c [])] [(3, .app 37)]), (4, .cells [.int .i64 j125_.1.gKind, .str j125_.1.gName, .int .i64 j125_.1.gNum, .sl (List.map GTerm.c j125_.1.gKids)] [(3, .app 37)])], []⟩) [] [0, 2, 4, 6] [2, 4] [] (by kernel_rfl) ?_
            refine Wc.skip ?_
            refine Wc.seq ?_
            refine Wc.block ?_
            refine Wc.seq ?_
            obtain ⟨g128_, h150, h148⟩ := obind h148
            obtain ⟨d129_, h151, h148⟩ := obind h148
            refine Wc.region [{}, {}, { v := some (.vptr [.int .i64 g128_.gOp, .str g128_.gName, .int .i64 g128_.gNum, .int .i64 g128_.gMany]) }, {}, { r := some (.v (.bool d129_) []) }] [] [0, 2, 4, 6, 33] [2, 4] [] ⟨[(0, (.v (.sl (List.map GIns.c i124_)), [])), (2, (.ptr 2 0, [])), (4, (.ptr 4 0, [])), (6, (.v (.int .i64 b127_), [])), (33, (.v (.bool (!d129_)), []))], [(2, .cells [.int .i64 0, .str (bs []), .int .i64 0, .sl (List.map GTerm.c [])] [(3, .app 37)]), (4, .cells [.int .i64 j125_.1.gKind, .str j125_.1.gName, .int .i64 j125_.1.gNum, .sl (List.map GTerm.c j125_.1.gKids)] [(3, .app 37)])], []⟩ _ (by kernel_rfl) (.cons (at_obl (c := GIns.c) (GIns.c_eq g128_) GIns.c_len h150) (.cons (len_ok 4 [.int .i64 g128_.gOp, .str g128_.gName, .int .i64 g128_.gNum, .int .i64 g128_.gMany]) (.cons (cspec_l12Form h151) .nil))) ?_
            rcases oif h148 with ⟨h152, h148⟩ | ⟨h152, h148⟩
            · refine Wc.condT h152 (by kernel_rfl) ?_
              refine Wc.seq ?_
              refine Wc.region [{}, { tk := [34] }] [] [2, 3] [2] [] ⟨[(2, (.ptr 2 0, [])), (3, (.v (.bool false), []))], [(2, .cells [.int .i64 0, .str (bs []), .int .i64 0, .sl (List.map GTerm.c [])] [(3, .app 37)])], []⟩ _ (by kernel_rfl) .nil ?_
              refine Wc.ret ?_
              obtain rfl := Option.some.inj h148
              obtain rfl := Option.some.inj h
              exact ⟨.inl rfl, by kernel_rfl, by kernel_rfl⟩
            · refine Wc.condF h152 (by kernel_rfl) ?_
              refine Wc.fix (st' := ⟨[(0, (.v (.sl (List.map GIns.c i124_)), [])), (2, (.ptr 2 0, [])), (4, (.ptr 4 0, [])), (6, (.v (.int .i64 b127_), []))], [(2, .cells [.int .i64 0, .str (bs []), .int .i64 0, .sl (List.map GTerm.c [])] [(3, .app 37)]), (4, .cells [.int .i64 j125_.1.gKind, .str j125_.1.gName, .int .i64 j125_.1.gNum, .sl (List.map GTerm.c j125_.1.gKids)] [(3, .app 37)])], []⟩) [] [0, 2, 4, 6] [2, 4] [] (by kernel_rfl) ?_
              refine Wc.skip ?_
              refine Wc.region [] [] [0, 2, 4, 6] [2, 4] [] ⟨[(0, (.v (.sl (List.map GIns.c i124_)), [])), (2, (.ptr 2 0, [])), (4, (.ptr 4 0, [])), (6, (.v (.int .i64 (wr.i64 (b127_ + 1))), []))], [(2, .cells [.int .i64 0, .str (bs []), .int .i64 0, .sl (List.map GTerm.c [])] [(3, .app 37)]), (4, .cells [.int .i64 j125_.1.gKind, .str j125_.1.gName, .int .i64 j125_.1.gNum, .sl (List.map GTerm.c j125_.1.gKids)] [(3, .app 37)])], []⟩ _ (by kernel_rfl) .nil ?_
              exact ⟨_, Nat.lt_succ_self _, _, rfl, h148⟩
          · refine Wc.condF h149 (by kernel_rfl) ?_
            refine Wc.fix (st' := ⟨[(2, (.ptr 2 0, [])), (4, (.ptr 4 0, []))], [(2, .cells [.int .i64 0, .str (bs []), .int .i64 0, .sl (List.map GTerm.c [])] [(3, .app 37)]), (4, .cells [.int .i64 j125_.1.gKind, .str j125_.1.gName, .int .i64 j125_.1.gNum, .sl (List.map GTerm.c j125_.1.gKids)] [(3, .app 37)])], []⟩) [] [2, 4] [2, 4] [] (by kernel_rfl) ?_
            refine Wc.exit ?_
            obtain rfl := Option.some.inj h148
            exact ⟨rfl, rfl⟩
      · rintro st ⟨rfl, rfl⟩
        refine Wc.seq ?_
        refine Wc.region [{ md := 1 }, { tk := [35] }] [] [2, 3] [2] [] ⟨[(2, (.ptr 2 0, [])), (3, (.v (.bool true), []))], [(2, .cells [.int .i64 j125_.1.gKind, .str j125_.1.gName, .int .i64 j125_.1.gNum, .sl (List.map GTerm.c j125_.1.gKids)] [(3, .app 37)])], []⟩ _ (by kernel_rfl) .nil ?_
        refine Wc.ret ?_
        obtain rfl := Option.some.inj h
        exact ⟨.inl rfl, by kernel_rfl, by kernel_rfl⟩

/-- laws.toIns -/
def plaws_toIns (k : Nat) (g130_ : GIns) : Option GIns :=
  some g130_
theorem claws_toIns {k : Nat} {g130_ : GIns} {r : GIns} (h : plaws_toIns k g130_ = some r) : FnO Try.prog 67 [.v (.agg [.int .i64 g130_.gOp, .str g130_.gName, .int .i64 g130_.gNum, .int .i64 g130_.gMany]) []] (.v (.agg [.int .i64 r.gOp, .str r.gName, .int .i64 r.gNum, .int .i64 r.gMany]) []) [] := by
  refine FnO.of Try.func67 (rfl : Try.f67.body = some _) (Nat.le_of_ble_eq_true (by kernel_rfl)) (Nat.le_of_ble_eq_true (by kernel_rfl)) ?_
  intro w0 X0 Fin pv0 pb
  unfold plaws_toIns at h
  refine Wc.seq ?_
  refine Wc.region [] [] [1, 2] [1, 2] [] ⟨[(1, (.ptr 1 0, [])), (2, (.ptr 2 0, []))], [(1, .cells [.int .i64 g130_.gOp, .str g130_.gName, .int .i64 g130_.gNum, .int .i64 g130_.gMany] []), (2, .cells [.int .i64 0, .str (bs []), .int .i64 0, .int .i64 0] [])], []⟩ _ (by kernel_rfl) .nil ?_
  refine Wc.seq ?_
  refine Wc.region [] [] [1, 2, 3] [1, 2, 3] [] ⟨[(1, (.ptr 1 0, [])), (2, (.ptr 2 0, [])), (3, (.ptr 3 0, []))], [(1, .cells [.int .i64 g130_.gOp, .str g130_.gName, .int .i64 g130_.gNum, .int .i64 g130_.gMany] []), (2, .cells [.int .i64 0, .str (bs []), .int .i64 0, .int .i64 0] []), (3, .cells [.int .i64 0, .str (bs []), .int .i64 0, .int .i64 0] [])], []⟩ _ (by kernel_rfl) .nil ?_
  refine Wc.seq ?_
  refine Wc.region [] [] [1, 2, 3] [1, 2, 3] [] ⟨[(1, (.ptr 1 0, [])), (2, (.ptr 2 0, [])), (3, (.ptr 3 0, []))], [(1, .cells [.int .i64 g130_.gOp, .str g130_.gName, .int .i64 g130_.gNum, .int .i64 g130_.gMany] []), (2, .cells [.int .i64 0, .str (bs []), .int .i64 0, .int .i64 0] []), (3, .cells [.int .i64 g130_.gOp, .str (bs []), .int .i64 0, .int .i64 0] [])], []⟩ _ (by kernel_rfl) .nil ?_
  refine Wc.seq ?_
  refine Wc.region [] [] [1, 2, 3] [1, 2, 3] [] ⟨[(1, (.ptr 1 0, [])), (2, (.ptr 2 0, [])), (3, (.ptr 3 0, []))], [(1, .cells [.int .i64 g130_.gOp, .str g130_.gName, .int .i64 g130_.gNum, .int .i64 g130_.gMany] []), (2, .cells [.int .i64 0, .str (bs []), .int .i64 0, .int .i64 0] []), (3, .cells [.int .i64 g130_.gOp, .str g130_.gName, .int .i64 0, .int .i64 0] [])], []⟩ _ (by kernel_rfl) .nil ?_
  refine Wc.seq ?_
  refine Wc.region [] [] [1, 2, 3] [1, 2, 3] [] ⟨[(1, (.ptr 1 0, [])), (2, (.ptr 2 0, [])), (3, (.ptr 3 0, []))], [(1, .cells [.int .i64 g130_.gOp, .str g130_.gName, .int .i64 g130_.gNum, .int .i64 g130_.gMany] []), (2, .cells [.int .i64 0, .str (bs []), .int .i64 0, .int .i64 0] []), (3, .cells [.int .i64 g130_.gOp, .str g130_.gName, .int .i64 g130_.gNum, .int .i64 0] [])], []⟩ _ (by kernel_rfl) .nil ?_
  refine Wc.seq ?_
  refine Wc.region [] [] [2, 3] [2, 3] [] ⟨[(2, (.ptr 2 0, [])), (3, (.ptr 3 0, []))], [(2, .cells [.int .i64 0, .str (bs []), .int .i64 0, .int .i64 0] []), (3, .cells [.int .i64 g130_.gOp, .str g130_.gName, .int .i64 g130_.gNum, .int .i64 g130_.gMany] [])], []⟩ _ (by kernel_rfl) .nil ?_
  refine Wc.seq ?_
  refine Wc.region [] [] [2] [2] [] ⟨[(2, (.ptr 2 0, []))], [(2, .cells [.int .i64 g130_.gOp, .str g130_.gName, .int .i64 g130_.gNum, .int .i64 g130_.gMany] [])], []⟩ _ (by kernel_rfl) .nil ?_
  refine Wc.ret ?_
  obtain rfl := Option.some.inj h
  exact ⟨.inl rfl, by kernel_rfl, by kernel_rfl⟩

def plaws_toInsS_L1 (k : Nat) (i131_ : List GIns) : Nat → (List GIns) → Int → Option (Out (List GIns) (List GIns))
  | 0, _, _ => none
  | m + 1, i132_, b133_ =>
    if (decide (b133_ < (i131_.length : Int))) = true then
      (at' i131_ b133_).bind fun g135_ =>
      (plaws_toIns k g135_).bind fun g136_ =>
      (at' i132_ b133_).bind fun g137_ =>
      plaws_toInsS_L1 k i131_ m (i132_.set ((b133_).toNat) g136_) (wr.i64 (b133_ + 1))
    else
      some (.done i132_)
/-- laws.toInsS -/
def plaws_toInsS (k : Nat) (i131_ : List GIns) : Option (List GIns) :=
  if 0 ≤ (i131_.length : Int) ∧ (i131_.length : Int) ≤ 1073741824 then
    (plaws_toInsS_L1 k i131_ k (List.replicate ((i131_.length : Int)).toNat (GIns.mk 0 (bs []) 0 0)) 0).bind fun out1 => match out1 with
    | .ret r => some r
    | .done i134_ =>
      some i134_
  else none
theorem claws_toInsS {k : Nat} {i131_ : List GIns} {r : (List GIns)} (h : plaws_toInsS k i131_ = some r) : FnO Try.prog 25 [.v (.sl (List.map GIns.c i131_)) []] (.v (.sl (List.map GIns.c r)) []) [] := by
  refine FnO.of Try.func25 (rfl : Try.f25.body = some _) (Nat.le_of_ble_eq_true (by kernel_rfl)) (Nat.le_of_ble_eq_true (by kernel_rfl)) ?_
  intro w0 X0 Fin pv0 pb
  unfold plaws_toInsS at h
  refine Wc.seq ?_
  refine Wc.region [] [] [0] [] [] ⟨[(0, (.v (.sl (List.map GIns.c i131_)), []))], [], []⟩ _ (by kernel_rfl) .nil ?_
  refine Wc.seq ?_
  obtain ⟨h153, h⟩ := oguard h
  refine Wc.region [{}, { v := some (.int .i64 (i131_.length : Int)) }, { c := some (List.map GIns.c (List.replicate ((i131_.length : Int)).toNat (GIns.mk 0 (bs []) 0 0))) }, { tk := [7] }] [] [0, 3] [] [] ⟨[(0, (.v (.sl (List.map GIns.c i131_)), [])), (3, (.v (.slx), [(0, .ex 97 true (List.map GIns.c (List.replicate ((i131_.length : Int)).toNat (GIns.mk 0 (bs []) 0 0))))]))], [], []⟩ _ (by kernel_rfl) (.cons (len_obl GIns.c i131_) (.cons (rep_re (c := GIns.c) (z := (GIns.mk 0 (bs []) 0 0)) (GIns.c_eq (GIns.mk 0 (bs []) 0 0)) ((i131_.length : Int)).toNat) (.cons (ms_obl h153) .nil))) ?_
  refine Wc.seq ?_
  refine Wc.seq ?_
  refine Wc.region [] [] [0, 3, 4] [] [] ⟨[(0, (.v (.sl (List.map GIns.c i131_)), [])), (3, (.v (.slx), [(0, .ex 97 true (List.map GIns.c (List.replicate ((i131_.length : Int)).toNat (GIns.mk 0 (bs []) 0 0))))])), (4, (.v (.int .i64 0), []))], [], []⟩ _ (by kernel_rfl) .nil ?_
  obtain ⟨out1, h154, h⟩ := obind h
  refine Wc.lastJ (fun st => ∃ (i134_ : List GIns), out1 = .done i134_ ∧ st = ⟨[(3, (.v (.slx), [(0, .ex 97 true (List.map GIns.c i134_))]))], [], []⟩) ?_ ?_
  · refine Wc.block ?_
    refine Wc.loop (fun m st => ∃ (i132_ : List GIns) (b133_ : Int), st = ⟨[(0, (.v (.sl (List.map GIns.c i131_)), [])), (3, (.v (.slx), [(0, .ex 97 true (List.map GIns.c i132_))])), (4, (.v (.int .i64 b133_), []))], [], []⟩ ∧ plaws_toInsS_L1 k i131_ m i132_ b133_ = some out1) ?_ k ⟨_, _, rfl, h154⟩
    rintro m st ⟨i132_, b133_, rfl, h154⟩
    cases m with
    | zero => exact (onone h154).elim
    | succ m =>
      refine Wc.seq ?_
      refine Wc.seq ?_
      refine Wc.region [{}, {}, { v := some (.int .i64 (i131_.length : Int)) }] [] [0, 3, 4, 11] [] [] ⟨[(0, (.v (.sl (List.map GIns.c i131_)), [])), (3, (.v (.slx), [(0, .ex 97 true (List.map GIns.c i132_))])), (4, (.v (.int .i64 b133_), [])), (11, (.v (.bool (decide (b133_ < (i131_.length : Int)))), []))], [], []⟩ _ (by kernel_rfl) (.cons (len_obl GIns.c i131_) .nil) ?_
      rcases oif h154 with ⟨h155, h154⟩ | ⟨h155, h154⟩
      · refine Wc.condT h155 (by kernel_rfl) ?_
        refine Wc.fix (st' := ⟨[(0, (.v (.sl (List.map GIns.c i131_)), [])), (3, (.v (.slx), [(0, .ex 97 true (List.map GIns.c i132_))])), (4, (.v (.int .i64 b133_), []))], [], []⟩) [] [0, 3, 4] [] [] (by kernel_rfl) ?_
        refine Wc.skip ?_
        refine Wc.seq ?_
        refine Wc.block ?_
        obtain ⟨g135_, h156, h154⟩ := obind h154
        obtain ⟨g136_, h157, h154⟩ := obind h154
        obtain ⟨g137_, h158, h154⟩ := obind h154
        refine Wc.region [{}, {}, {}, {}, { v := some (.vptr [.int .i64 g135_.gOp, .str g135_.gName, .int .i64 g135_.gNum, .int .i64 g135_.gMany]) }, {}, { r := some (.v (.agg [.int .i64 g136_.gOp, .str g136_.gName, .int .i64 g136_.gNum, .int .i64 g136_.gMany]) []) }, {}, { c := some (List.map GIns.c (i132_.set ((b133_).toNat) g136_)) }] [] [0, 3, 4] [] [] ⟨[(0, (.v (.sl (List.map GIns.c i131_)), [])), (3, (.v (.slx), [(0, .ex 97 true (List.map GIns.c (i132_.set ((b133_).toNat) g136_)))])), (4, (.v (.int .i64 b133_), []))], [], []⟩ _ (by kernel_rfl) (.cons (at_obl (c := GIns.c) (GIns.c_eq g135_) GIns.c_len h156) (.cons (len_ok 4 [.int .i64 g135_.gOp, .str g135_.gName, .int .i64 g135_.gNum, .int .i64 g135_.gMany]) (.cons (claws_toIns h157) (.cons (ix_obl (c := GIns.c) GIns.c_len h158) (.cons (mod_obl (off := 0) (new := [.int .i64 g136_.gOp, .str g136_.gName, .int .i64 g136_.gNum, .int .i64 g136_.gMany]) (c := GIns.c) (GIns.c_eq g137_) (GIns.c_eq g136_) (at'_spec h158).2 rfl) (.cons (st_obl (sz := 4) (off := 0) (s := 4) (c := GIns.c) (GIns.c_eq g137_) (at'_spec h158).2 rfl (Nat.le_of_ble_eq_true rfl)) .nil)))))) ?_
        refine Wc.region [] [] [0, 3, 4] [] [] ⟨[(0, (.v (.sl (List.map GIns.c i131_)), [])), (3, (.v (.slx), [(0, .ex 97 true (List.map GIns.c (i132_.set ((b133_).toNat) g136_)))])), (4, (.v (.int .i64 (wr.i64 (b133_ + 1))), []))], [], []⟩ _ (by kernel_rfl) .nil ?_
        exact ⟨_, Nat.lt_succ_self _, _, _, rfl, h154⟩
      · refine Wc.condF h155 (by kernel_rfl) ?_
        refine Wc.fix (st' := ⟨[(3, (.v (.slx), [(0, .ex 97 true (List.map GIns.c i132_))]))], [], []⟩) [] [3] [] [] (by kernel_rfl) ?_
        refine Wc.exit ?_
        obtain rfl := Option.some.inj h154
        exact ⟨_, rfl, rfl⟩
  · rintro st ⟨i134_, rfl, rfl⟩
    refine Wc.seq ?_
    refine Wc.region [{ tk := [3] }, { tk := [22] }] [] [2] [] [] ⟨[(2, (.v (.slx), [(0, .ex 97 true (List.map GIns.c i134_))]))], [], []⟩ _ (by kernel_rfl) .nil ?_
    refine Wc.fix (st' := ⟨[(2, (.v (.sl (List.map GIns.c i134_)), []))], [], []⟩) [.sh (.t 2 0)] [2] [] [] (by kernel_rfl) ?_
    refine Wc.ret ?_
    obtain rfl := Option.some.inj h
    exact ⟨.inl rfl, by kernel_rfl, by kernel_rfl⟩

/-- impl.within -/
def pimpl_within (k : Nat) (b138_ : Int) (b139_ : Int) (b140_ : Int) : Option Bool :=
  if (decide (b138_ ≥ b139_)) = true then
    some (decide (b138_ ≤ b140_))
  else
    some false
theorem cimpl_within {k : Nat} {b138_ : Int} {b139_ : Int} {b140_ : Int} {r : Bool} (h : pimpl_within k b138_ b139_ b140_ = some r) : FnO Try.prog 109 [.v (.int .i64 b138_) [], .v (.int .i64 b139_) [], .v (.int .i64 b140_) []] (.v (.bool r) []) [] := by
  refine FnO.of Try.func109 (rfl : Try.f109.body = some _) (Nat.le_of_ble_eq_true (by kernel_rfl)) (Nat.le_of_ble_eq_true (by kernel_rfl)) ?_
  intro w0 X0 Fin pv0 pb
  unfold pimpl_within at h
  refine Wc.seq ?_
  refine Wc.region [] [] [0, 1, 2] [] [] ⟨[(0, (.v (.int .i64 b138_), [])), (1, (.v (.int .i64 b139_), [])), (2, (.v (.int .i64 b140_), []))], [], []⟩ _ (by kernel_rfl) .nil ?_
  refine Wc.seq ?_
  rcases oif h with ⟨h159, h⟩ | ⟨h159, h⟩
  · refine Wc.region [{}, {}, {}, { re := some (.bool true) }] [] [6] [] [] ⟨[(6, (.v (.bool (decide (b138_ ≤ b140_))), []))], [], []⟩ _ (by kernel_rfl) (.cons (congrArg AV.bool h159) .nil) ?_
    refine Wc.ret ?_
    obtain rfl := Option.some.inj h
    exact ⟨.inl rfl, by kernel_rfl, by kernel_rfl⟩
  · refine Wc.region [{}, {}, {}, { re := some (.bool false) }] [] [6] [] [] ⟨[(6, (.v (.bool false), []))], [], []⟩ _ (by kernel_rfl) (.cons (congrArg AV.bool h159) .nil) ?_
    refine Wc.ret ?_
    obtain rfl := Option.some.inj h
    exact ⟨.inl rfl, by kernel_rfl, by kernel_rfl⟩

def pimpl_nameOk_L1 (k : Nat) (e141_ : ByteArray) : Nat → Int → Option (Out Bool Unit)
  | 0, _ => none
  | m + 1, b142_ =>
    if (decide (b142_ < (e141_.size : Int))) = true then
      if 0 ≤ b142_ ∧ (b142_).toNat < e141_.size then
        (pimpl_within k (wr.i64 (bt e141_ b142_)) 33 126).bind fun d143_ =>
        if (!d143_) = true then
          some (.ret false)
        else
          if 0 ≤ b142_ ∧ (b142_).toNat < e141_.size then
            if ((bt e141_ b142_) == 39) = true then
              some (.ret false)
            else
              if 0 ≤ b142_ ∧ (b142_).toNat < e141_.size then
                if ((bt e141_ b142_) == 34) = true then
                  some (.ret false)
                else
                  pimpl_nameOk_L1 k e141_ m (wr.i64 (b142_ + 1))
              else none
          else none
      else none
    else
      some (.done ())
/-- impl.nameOk -/
def pimpl_nameOk (k : Nat) (e141_ : ByteArray) : Option Bool :=
  (pimpl_nameOk_L1 k e141_ k 0).bind fun out1 => match out1 with
  | .ret r => some r
  | .done () =>
    (pimpl_within k (e141_.size : Int) 1 20).bind fun d144_ =>
    some d144_
theorem cimpl_nameOk {k : Nat} {e141_ : ByteArray} {r : Bool} (h : pimpl_nameOk k e141_ = some r) : FnO Try.prog 129 [.v (.str e141_) []] (.v (.bool r) []) [] := by
  refine FnO.of Try.func129 (rfl : Try.f129.body = some _) (Nat.le_of_ble_eq_true (by kernel_rfl)) (Nat.le_of_ble_eq_true (by kernel_rfl)) ?_
  intro w0 X0 Fin pv0 pb
  unfold pimpl_nameOk at h
  refine Wc.seq ?_
  refine Wc.region [] [] [0] [] [] ⟨[(0, (.v (.str e141_), []))], [], []⟩ _ (by kernel_rfl) .nil ?_
  refine Wc.seq ?_
  refine Wc.seq ?_
  refine Wc.region [] [] [0, 3] [] [] ⟨[(0, (.v (.str e141_), [])), (3, (.v (.int .i64 0), []))], [], []⟩ _ (by kernel_rfl) .nil ?_
  obtain ⟨out1, h160, h⟩ := obind h
  refine Wc.lastJ (fun st => out1 = .done () ∧ st = ⟨[(0, (.v (.str e141_), []))], [], []⟩) ?_ ?_
  · refine Wc.block ?_
    refine Wc.loop (fun m st => ∃ (b142_ : Int), st = ⟨[(0, (.v (.str e141_), [])), (3, (.v (.int .i64 b142_), []))], [], []⟩ ∧ pimpl_nameOk_L1 k e141_ m b142_ = some out1) ?_ k ⟨_, rfl, h160⟩
    rintro m st ⟨b142_, rfl, h160⟩
    cases m with
    | zero => exact (onone h160).elim
    | succ m =>
      refine Wc.seq ?_
      refine Wc.seq ?_
      refine Wc.region [] [] [0, 3, 7] [] [] ⟨[(0, (.v (.str e141_), [])), (3, (.v (.int .i64 b142_), [])), (7, (.v (.bool (decide (b142_ < (e141_.size : Int)))), []))], [], []⟩ _ (by kernel_rfl) .nil ?_
      rcases oif h160 with ⟨h161, h160⟩ | ⟨h161, h160⟩
      · refine Wc.condT h161 (by kernel_rfl) ?_
        refine Wc.fix (st' := ⟨[(0, (.v (.str e141_), [])), (3, (.v (.int .i64 b142_), []))], [], []⟩) [] [0, 3] [] [] (by kernel_rfl) ?_
        refine Wc.skip ?_
        refine Wc.seq ?_
        refine Wc.block ?_
        refine Wc.seq ?_
        obtain ⟨h162, h160⟩ := oguard h160
        obtain ⟨d143_, h163, h160⟩ := obind h160
        rcases oif h160 with ⟨h164, h160⟩ | ⟨h164, h160⟩
        · refine Wc.region [{}, {}, {}, {}, { r := some (.v (.bool d143_) []) }, {}, { re := some (.bool true) }] [] [0, 3, 27] [] [] ⟨[(0, (.v (.str e141_), [])), (3, (.v (.int .i64 b142_), [])), (27, (.v (.bool true), []))], [], []⟩ _ (by kernel_rfl) (.cons h162 (.cons (cimpl_within h163) (.cons (congrArg AV.bool h164) .nil))) ?_
          refine Wc.condT rfl (by kernel_rfl) ?_
          refine Wc.seq ?_
          refine Wc.region [] [] [2] [] [] ⟨[(2, (.v (.bool false), []))], [], []⟩ _ (by kernel_rfl) .nil ?_
          refine Wc.ret ?_
          obtain rfl := Option.some.inj h160
          obtain rfl := Option.some.inj h
          exact ⟨.inl rfl, by kernel_rfl, by kernel_rfl⟩
        · obtain ⟨h165, h160⟩ := oguard h160
          rcases oif h160 with ⟨h166, h160⟩ | ⟨h166, h160⟩
          · refine Wc.region [{}, {}, {}, {}, { r := some (.v (.bool d143_) []) }, {}, { re := some (.bool false) }, {}, {}, {}, {}, {}, { re := some (.bool true) }] [] [0, 3, 27] [] [] ⟨[(0, (.v (.str e141_), [])), (3, (.v (.int .i64 b142_), [])), (27, (.v (.bool true), []))], [], []⟩ _ (by kernel_rfl) (.cons h162 (.cons (cimpl_within h163) (.cons (congrArg AV.bool h164) (.cons h165 (.cons (congrArg AV.bool h166) .nil))))) ?_
            refine Wc.condT rfl (by kernel_rfl) ?_
            refine Wc.seq ?_
            refine Wc.region [] [] [2] [] [] ⟨[(2, (.v (.bool false), []))], [], []⟩ _ (by kernel_rfl) .nil ?_
            refine Wc.ret ?_
            obtain rfl := Option.some.inj h160
            obtain rfl := Option.some.inj h
            exact ⟨.inl rfl, by kernel_rfl, by kernel_rfl⟩
          · obtain ⟨h167, h160⟩ := oguard h160
            refine Wc.region [{}, {}, {}, {}, { r := some (.v (.bool d143_) []) }, {}, { re := some (.bool false) }, {}, {}, {}, {}, {}, { re := some (.bool false) }] [] [0, 3, 27] [] [] ⟨[(0, (.v (.str e141_), [])), (3, (.v (.int .i64 b142_), [])), (27, (.v (.bool ((bt e141_ b142_) == 34)), []))], [], []⟩ _ (by kernel_rfl) (.cons h162 (.cons (cimpl_within h163) (.cons (congrArg AV.bool h164) (.cons h165 (.cons (congrArg AV.bool h166) (.cons h167 .nil)))))) ?_
            rcases oif h160 with ⟨h168, h160⟩ | ⟨h168, h160⟩
            · refine Wc.condT h168 (by kernel_rfl) ?_
              refine Wc.seq ?_
              refine Wc.region [] [] [2] [] [] ⟨[(2, (.v (.bool false), []))], [], []⟩ _ (by kernel_rfl) .nil ?_
              refine Wc.ret ?_
              obtain rfl := Option.some.inj h160
              obtain rfl := Option.some.inj h
              exact ⟨.inl rfl, by kernel_rfl, by kernel_rfl⟩
            · refine Wc.condF h168 (by kernel_rfl) ?_
              refine Wc.fix (st' := ⟨[(0, (.v (.str e141_), [])), (3, (.v (.int .i64 b142_), []))], [], []⟩) [] [0, 3] [] [] (by kernel_rfl) ?_
              refine Wc.skip ?_
              refine Wc.region [] [] [0, 3] [] [] ⟨[(0, (.v (.str e141_), [])), (3, (.v (.int .i64 (wr.i64 (b142_ + 1))), []))], [], []⟩ _ (by kernel_rfl) .nil ?_
              exact ⟨_, Nat.lt_succ_self _, _, rfl, h160⟩
      · refine Wc.condF h161 (by kernel_rfl) ?_
        refine Wc.fix (st' := ⟨[(0, (.v (.str e141_), []))], [], []⟩) [] [0] [] [] (by kernel_rfl) ?_
        refine Wc.exit ?_
        obtain rfl := Option.some.inj h160
        exact ⟨rfl, rfl⟩
  · rintro st ⟨rfl, rfl⟩
    refine Wc.seq ?_
    obtain ⟨d144_, h169, h⟩ := obind h
    refine Wc.region [{}, {}, { r := some (.v (.bool d144_) []) }] [] [2] [] [] ⟨[(2, (.v (.bool d144_), []))], [], []⟩ _ (by kernel_rfl) (.cons (cimpl_within h169) .nil) ?_
    refine Wc.ret ?_
    obtain rfl := Option.some.inj h
    exact ⟨.inl rfl, by kernel_rfl, by kernel_rfl⟩

def pimpl_sized_L2 (k : Nat) (rimpl_sized : GTerm → Int → Option Int) (c145_ : GTerm) (b146_ : Int) : Nat → Int → Int → Option (Out Int Int)
  | 0, _, _ => none
  | m + 1, b147_, b148_ =>
    if (decide (b148_ < (c145_.gKids.length : Int))) = true then
      (at' c145_.gKids b148_).bind fun c150_ =>
      (rimpl_sized c150_ (wr.i64 (b146_ + 1))).bind fun b151_ =>
      if (decide ((wr.i64 (b147_ + b151_)) > 400)) = true then
        some (.ret 401)
      else
        pimpl_sized_L2 k rimpl_sized c145_ b146_ m (wr.i64 (b147_ + b151_)) (wr.i64 (b148_ + 1))
    else
      some (.done b147_)
def pimpl_sized_J1 (k : Nat) (rimpl_sized : GTerm → Int → Option Int) (c145_ : GTerm) (b146_ : Int) : Option Int :=
  (pimpl_sized_L2 k rimpl_sized c145_ b146_ k 1 0).bind fun out2 => match out2 with
  | .ret r => some r
  | .done b149_ =>
    some b149_
mutual
/-- impl.sized -/
def pimpl_sized : Nat → GTerm → Int → Option Int
  | 0, _, _ => none
  | k + 1, c145_, b146_ =>
    if (decide (b146_ > 40)) = true then
      some 401
    else
      if (c145_.gKind == 1) = true then
        if (!(sEq c145_.gName (bs []))) = true then
          some 401
        else
          (pimpl_within k c145_.gNum 0 99999).bind fun d152_ =>
          if (!d152_) = true then
            some 401
          else
            if (decide ((c145_.gKids.length : Int) > 0)) = true then
              some 401
            else
              pimpl_sized_J1 k (pimpl_sized k) c145_ b146_
      else
        if (c145_.gKind == 2) = true then
          (pimpl_nameOk k c145_.gName).bind fun d153_ =>
          if (!d153_) = true then
            some 401
          else
            if (c145_.gNum != 0) = true then
              some 401
            else
              if (decide ((c145_.gKids.length : Int) > 0)) = true then
                some 401
              else
                pimpl_sized_J1 k (pimpl_sized k) c145_ b146_
        else
          if (c145_.gKind == 3) = true then
            if (!(sEq c145_.gName (bs []))) = true then
              some 401
            else
              (pimpl_within k c145_.gNum (-999999999) 999999999).bind fun d154_ =>
              if (!d154_) = true then
                some 401
              else
                if (decide ((c145_.gKids.length : Int) > 0)) = true then
                  some 401
                else
                  pimpl_sized_J1 k (pimpl_sized k) c145_ b146_
          else
            if (c145_.gKind == 4) = true then
              (pimpl_nameOk k c145_.gName).bind fun d155_ =>
              if (!d155_) = true then
                some 401
              else
                if (c145_.gNum != 0) = true then
                  some 401
                else
                  (pimpl_within k (c145_.gKids.length : Int) 1 5).bind fun d156_ =>
                  if (!d156_) = true then
                    some 401
                  else
                    pimpl_sized_J1 k (pimpl_sized k) c145_ b146_
            else
              some 401
end
set_option maxHeartbeats 4000000 in
theorem all_pimpl_sized : ∀ k : Nat, (∀ {c145_ : GTerm} {b146_ : Int} {r : Int}, pimpl_sized k c145_ b146_ = some r → FnO Try.prog 99 [.v (.agg [.int .i64 c145_.gKind, .str c145_.gName, .int .i64 c145_.gNum, .sl (List.map GTerm.c c145_.gKids)]) [], .v (.int .i64 b146_) []] (.v (.int .i64 r) []) []) := by
  intro k
  induction k with
  | zero =>
    · intro c145_ b146_ r h
      exact (onone (by rw [pimpl_sized] at h; exact h)).elim
  | succ k ih =>
    have ih_pimpl_sized := @ih
    · intro c145_ b146_ r h
      rw [pimpl_sized] at h
      refine FnO.of Try.func99 (rfl : Try.f99.body = some _) (Nat.le_of_ble_eq_true (by kernel_rfl)) (Nat.le_of_ble_eq_true (by kernel_rfl)) ?_
      intro w0 X0 Fin pv0 pb
      refine Wc.seq ?_
      refine Wc.region [] [] [1, 2] [2] [] ⟨[(1, (.v (.int .i64 b146_), [])), (2, (.ptr 2 0, []))], [(2, .cells [.int .i64 c145_.gKind, .str c145_.gName, .int .i64 c145_.gNum, .sl (List.map GTerm.c c145_.gKids)] [])], []⟩ _ (by kernel_rfl) .nil ?_
      refine Wc.seq ?_
      refine Wc.seq ?_
      refine Wc.region [] [] [1, 2, 9] [2] [] ⟨[(1, (.v (.int .i64 b146_), [])), (2, (.ptr 2 0, [])), (9, (.v (.bool (decide (b146_ > 40))), []))], [(2, .cells [.int .i64 c145_.gKind, .str c145_.gName, .int .i64 c145_.gNum, .sl (List.map GTerm.c c145_.gKids)] [])], []⟩ _ (by kernel_rfl) .nil ?_
      rcases oif h with ⟨h170, h⟩ | ⟨h170, h⟩
      · refine Wc.condT h170 (by kernel_rfl) ?_
        refine Wc.seq ?_
        refine Wc.region [] [] [4] [] [] ⟨[(4, (.v (.int .i64 401), []))], [], []⟩ _ (by kernel_rfl) .nil ?_
        refine Wc.ret ?_
        obtain rfl := Option.some.inj h
        exact ⟨.inl rfl, by kernel_rfl, by kernel_rfl⟩
      · refine Wc.condF h170 (by kernel_rfl) ?_
        refine Wc.fix (st' := ⟨[(1, (.v (.int .i64 b146_), [])), (2, (.ptr 2 0, []))], [(2, .cells [.int .i64 c145_.gKind, .str c145_.gName, .int .i64 c145_.gNum, .sl (List.map GTerm.c c145_.gKids)] [])], []⟩) [] [1, 2] [2] [] (by kernel_rfl) ?_
        refine Wc.skip ?_
        refine Wc.seqJ (fun st => st = ⟨[(1, (.v (.int .i64 b146_), [])), (2, (.ptr 2 0, []))], [(2, .cells [.int .i64 c145_.gKind, .str c145_.gName, .int .i64 c145_.gNum, .sl (List.map GTerm.c c145_.gKids)] [])], []⟩ ∧ pimpl_sized_J1 k (pimpl_sized k) c145_ b146_ = some r) ?_ ?_
        · refine Wc.seq ?_
          refine Wc.region [] [] [1, 2, 11] [2] [] ⟨[(1, (.v (.int .i64 b146_), [])), (2, (.ptr 2 0, [])), (11, (.v (.int .i64 c145_.gKind), []))], [(2, .cells [.int .i64 c145_.gKind, .str c145_.gName, .int .i64 c145_.gNum, .sl (List.map GTerm.c c145_.gKids)] [])], []⟩ _ (by kernel_rfl) .nil ?_
          refine Wc.block ?_
          refine Wc.seq ?_
          refine Wc.region [] [] [1, 2, 11, 12] [2] [] ⟨[(1, (.v (.int .i64 b146_), [])), (2, (.ptr 2 0, [])), (11, (.v (.int .i64 c145_.gKind), [])), (12, (.v (.bool (c145_.gKind == 1)), []))], [(2, .cells [.int .i64 c145_.gKind, .str c145_.gName, .int .i64 c145_.gNum, .sl (List.map GTerm.c c145_.gKids)] [])], []⟩ _ (by kernel_rfl) .nil ?_
          rcases oif h with ⟨h176, h⟩ | ⟨h176, h⟩
          · refine Wc.condT h176 (by kernel_rfl) ?_
            refine Wc.seq ?_
            rcases oif h with ⟨h177, h⟩ | ⟨h177, h⟩
            · refine Wc.region [{}, {}, {}, { re := some (.bool true) }] [] [1, 2, 28] [2] [] ⟨[(1, (.v (.int .i64 b146_), [])), (2, (.ptr 2 0, [])), (28, (.v (.bool true), []))], [(2, .cells [.int .i64 c145_.gKind, .str c145_.gName, .int .i64 c145_.gNum, .sl (List.map GTerm.c c145_.gKids)] [])], []⟩ _ (by kernel_rfl) (.cons (congrArg AV.bool h177) .nil) ?_
              refine Wc.condT rfl (by kernel_rfl) ?_
              refine Wc.seq ?_
              refine Wc.region [] [] [4] [] [] ⟨[(4, (.v (.int .i64 401), []))], [], []⟩ _ (by kernel_rfl) .nil ?_
              refine Wc.ret ?_
              obtain rfl := Option.some.inj h
              exact ⟨.inl rfl, by kernel_rfl, by kernel_rfl⟩
            · obtain ⟨d152_, h178, h⟩ := obind h
              rcases oif h with ⟨h179, h⟩ | ⟨h179, h⟩
              · refine Wc.region [{}, {}, {}, { re := some (.bool false) }, {}, {}, { r := some (.v (.bool d152_) []) }, {}, {}, { re := some (.bool true) }] [] [1, 2, 28] [2] [] ⟨[(1, (.v (.int .i64 b146_), [])), (2, (.ptr 2 0, [])), (28, (.v (.bool true), []))], [(2, .cells [.int .i64 c145_.gKind, .str c145_.gName, .int .i64 c145_.gNum, .sl (List.map GTerm.c c145_.gKids)] [])], []⟩ _ (by kernel_rfl) (.cons (congrArg AV.bool h177) (.cons (cimpl_within h178) (.cons (congrArg AV.bool h179) .nil))) ?_
                refine Wc.condT rfl (by kernel_rfl) ?_
                refine Wc.seq ?_
                refine Wc.region [] [] [4] [] [] ⟨[(4, (.v (.int .i64 401), []))], [], []⟩ _ (by kernel_rfl) .nil ?_
                refine Wc.ret ?_
                obtain rfl := Option.some.inj h
                exact ⟨.inl rfl, by kernel_rfl, by kernel_rfl⟩
              · refine Wc.region [{}, {}, {}, { re := some (.bool false) }, {}, {}, { r := some (.v (.bool d152_) []) }, {}, {}, { re := some (.bool false) }, {}, {}, { v := some (.int .i64 (c145_.gKids.length : Int)) }] [] [1, 2, 28] [2] [] ⟨[(1, (.v (.int .i64 b146_), [])), (2, (.ptr 2 0, [])), (28, (.v (.bool (decide ((c145_.gKids.length : Int) > 0))), []))], [(2, .cells [.int .i64 c145_.gKind, .str c145_.gName, .int .i64 c145_.gNum, .sl (List.map GTerm.c c145_.gKids)] [])], []⟩ _ (by kernel_rfl) (.cons (congrArg AV.bool h177) (.cons (cimpl_within h178) (.cons (congrArg AV.bool h179) (.cons (len_obl GTerm.c c145_.gKids) .nil)))) ?_
                rcases oif h with ⟨h180, h⟩ | ⟨h180, h⟩
                · refine Wc.condT h180 (by kernel_rfl) ?_
                  refine Wc.seq ?_
                  refine Wc.region [] [] [4] [] [] ⟨[(4, (.v (.int .i64 401), []))], [], []⟩ _ (by kernel_rfl) .nil ?_
                  refine Wc.ret ?_
                  obtain rfl := Option.some.inj h
                  exact ⟨.inl rfl, by kernel_rfl, by kernel_rfl⟩
                · refine Wc.condF h180 (by kernel_rfl) ?_
                  refine Wc.fix (st' := ⟨[(1, (.v (.int .i64 b146_), [])), (2, (.ptr 2 0, []))], [(2, .cells [.int .i64 c145_.gKind, .str c145_.gName, .int .i64 c145_.gNum, .sl (List.map GTerm.c c145_.gKids)] [])], []⟩) [] [1, 2] [2] [] (by kernel_rfl) ?_
                  refine Wc.skip ?_
                  exact ⟨rfl, h⟩
          · refine Wc.condF h176 (by kernel_rfl) ?_
            refine Wc.seq ?_
            refine Wc.region [] [] [1, 2, 11, 29] [2] [] ⟨[(1, (.v (.int .i64 b146_), [])), (2, (.ptr 2 0, [])), (11, (.v (.int .i64 c145_.gKind), [])), (29, (.v (.bool (c145_.gKind == 2)), []))], [(2, .cells [.int .i64 c145_.gKind, .str c145_.gName, .int .i64 c145_.gNum, .sl (List.map GTerm.c c145_.gKids)] [])], []⟩ _ (by kernel_rfl) .nil ?_
            rcases oif h with ⟨h181, h⟩ | ⟨h181, h⟩
            · refine Wc.condT h181 (by kernel_rfl) ?_
              refine Wc.seq ?_
              obtain ⟨d153_, h182, h⟩ := obind h
              rcases oif h with ⟨h183, h⟩ | ⟨h183, h⟩
              · refine Wc.region [{}, {}, { r := some (.v (.bool d153_) []) }, {}, { re := some (.bool true) }] [] [1, 2, 45] [2] [] ⟨[(1, (.v (.int .i64 b146_), [])), (2, (.ptr 2 0, [])), (45, (.v (.bool true), []))], [(2, .cells [.int .i64 c145_.gKind, .str c145_.gName, .int .i64 c145_.gNum, .sl (List.map GTerm.c c145_.gKids)] [])], []⟩ _ (by kernel_rfl) (.cons (cimpl_nameOk h182) (.cons (congrArg AV.bool h183) .nil)) ?_
                refine Wc.condT rfl (by kernel_rfl) ?_
                refine Wc.seq ?_
                refine Wc.region [] [] [4] [] [] ⟨[(4, (.v (.int .i64 401), []))], [], []⟩ _ (by kernel_rfl) .nil ?_
                refine Wc.ret ?_
                obtain rfl := Option.some.inj h
                exact ⟨.inl rfl, by kernel_rfl, by kernel_rfl⟩
              · rcases oif h with ⟨h184, h⟩ | ⟨h184, h⟩
                · refine Wc.region [{}, {}, { r := some (.v (.bool d153_) []) }, {}, { re := some (.bool false) }, {}, {}, {}, {}, { re := some (.bool true) }] [] [1, 2, 45] [2] [] ⟨[(1, (.v (.int .i64 b146_), [])), (2, (.ptr 2 0, [])), (45, (.v (.bool true), []))], [(2, .cells [.int .i64 c145_.gKind, .str c145_.gName, .int .i64 c145_.gNum, .sl (List.map GTerm.c c145_.gKids)] [])], []⟩ _ (by kernel_rfl) (.cons (cimpl_nameOk h182) (.cons (congrArg AV.bool h183) (.cons (congrArg AV.bool h184) .nil))) ?_
                  refine Wc.condT rfl (by kernel_rfl) ?_
                  refine Wc.seq ?_
                  refine Wc.region [] [] [4] [] [] ⟨[(4, (.v (.int .i64 401), []))], [], []⟩ _ (by kernel_rfl) .nil ?_
                  refine Wc.ret ?_
                  obtain rfl := Option.some.inj h
                  exact ⟨.inl rfl, by kernel_rfl, by kernel_rfl⟩
                · refine Wc.region [{}, {}, { r := some (.v (.bool d153_) []) }, {}, { re := some (.bool false) }, {}, {}, {}, {}, { re := some (.bool false) }, {}, {}, { v := some (.int .i64 (c145_.gKids.length : Int)) }] [] [1, 2, 45] [2] [] ⟨[(1, (.v (.int .i64 b146_), [])), (2, (.ptr 2 0, [])), (45, (.v (.bool (decide ((c145_.gKids.length : Int) > 0))), []))], [(2, .cells [.int .i64 c145_.gKind, .str c145_.gName, .int .i64 c145_.gNum, .sl (List.map GTerm.c c145_.gKids)] [])], []⟩ _ (by kernel_rfl) (.cons (cimpl_nameOk h182) (.cons (congrArg AV.bool h183) (.cons (congrArg AV.bool h184) (.cons (len_obl GTerm.c c145_.gKids) .nil)))) ?_
                  rcases oif h with ⟨h185, h⟩ | ⟨h185, h⟩
                  · refine Wc.condT h185 (by kernel_rfl) ?_
                    refine Wc.seq ?_
                    refine Wc.region [] [] [4] [] [] ⟨[(4, (.v (.int .i64 401), []))], [], []⟩ _ (by kernel_rfl) .nil ?_
                    refine Wc.ret ?_
                    obtain rfl := Option.some.inj h
                    exact ⟨.inl rfl, by kernel_rfl, by kernel_rfl⟩
                  · refine Wc.condF h185 (by kernel_rfl) ?_
                    refine Wc.fix (st' := ⟨[(1, (.v (.int .i64 b146_), [])), (2, (.ptr 2 0, []))], [(2, .cells [.int .i64 c145_.gKind, .str c145_.gName, .int .i64 c145_.gNum, .sl (List.map GTerm.c c145_.gKids)] [])], []⟩) [] [1, 2] [2] [] (by kernel_rfl) ?_
                    refine Wc.skip ?_
                    exact ⟨rfl, h⟩
            · refine Wc.condF h181 (by kernel_rfl) ?_
              refine Wc.seq ?_
              refine Wc.region [] [] [1, 2, 11, 46] [2] [] ⟨[(1, (.v (.int .i64 b146_), [])), (2, (.ptr 2 0, [])), (11, (.v (.int .i64 c145_.gKind), [])), (46, (.v (.bool (c145_.gKind == 3)), []))], [(2, .cells [.int .i64 c145_.gKind, .str c145_.gName, .int .i64 c145_.gNum, .sl (List.map GTerm.c c145_.gKids)] [])], []⟩ _ (by kernel_rfl) .nil ?_
              rcases oif h with ⟨h186, h⟩ | ⟨h186, h⟩
              · refine Wc.condT h186 (by kernel_rfl) ?_
                refine Wc.seq ?_
                rcases oif h with ⟨h187, h⟩ | ⟨h187, h⟩
                · refine Wc.region [{}, {}, {}, { re := some (.bool true) }] [] [1, 2, 62] [2] [] ⟨[(1, (.v (.int .i64 b146_), [])), (2, (.ptr 2 0, [])), (62, (.v (.bool true), []))], [(2, .cells [.int .i64 c145_.gKind, .str c145_.gName, .int .i64 c145_.gNum, .sl (List.map GTerm.c c145_.gKids)] [])], []⟩ _ (by kernel_rfl) (.cons (congrArg AV.bool h187) .nil) ?_
                  refine Wc.condT rfl (by kernel_rfl) ?_
                  refine Wc.seq ?_
                  refine Wc.region [] [] [4] [] [] ⟨[(4, (.v (.int .i64 401), []))], [], []⟩ _ (by kernel_rfl) .nil ?_
                  refine Wc.ret ?_
                  obtain rfl := Option.some.inj h
                  exact ⟨.inl rfl, by kernel_rfl, by kernel_rfl⟩
                · obtain ⟨d154_, h188, h⟩ := obind h
                  rcases oif h with ⟨h189, h⟩ | ⟨h189, h⟩
                  · refine Wc.region [{}, {}, {}, { re := some (.bool false) }, {}, {}, { r := some (.v (.bool d154_) []) }, {}, {}, { re := some (.bool true) }] [] [1, 2, 62] [2] [] ⟨[(1, (.v (.int .i64 b146_), [])), (2, (.ptr 2 0, [])), (62, (.v (.bool true), []))], [(2, .cells [.int .i64 c145_.gKind, .str c145_.gName, .int .i64 c145_.gNum, .sl (List.map GTerm.c c145_.gKids)] [])], []⟩ _ (by kernel_rfl) (.cons (congrArg AV.bool h187) (.cons (cimpl_within h188) (.cons (congrArg AV.bool h189) .nil))) ?_
                    refine Wc.condT rfl (by kernel_rfl) ?_
                    refine Wc.seq ?_
                    refine Wc.region [] [] [4] [] [] ⟨[(4, (.v (.int .i64 401), []))], [], []⟩ _ (by kernel_rfl) .nil ?_
                    refine Wc.ret ?_
                    obtain rfl := Option.some.inj h
                    exact ⟨.inl rfl, by kernel_rfl, by kernel_rfl⟩
                  · refine Wc.region [{}, {}, {}, { re := some (.bool false) }, {}, {}, { r := some (.v (.bool d154_) []) }, {}, {}, { re := some (.bool false) }, {}, {}, { v := some (.int .i64 (c145_.gKids.length : Int)) }] [] [1, 2, 62] [2] [] ⟨[(1, (.v (.int .i64 b146_), [])), (2, (.ptr 2 0, [])), (62, (.v (.bool (decide ((c145_.gKids.length : Int) > 0))), []))], [(2, .cells [.int .i64 c145_.gKind, .str c145_.gName, .int .i64 c145_.gNum, .sl (List.map GTerm.c c145_.gKids)] [])], []⟩ _ (by kernel_rfl) (.cons (congrArg AV.bool h187) (.cons (cimpl_within h188) (.cons (congrArg AV.bool h189) (.cons (len_obl GTerm.c c145_.gKids) .nil)))) ?_
                    rcases oif h with ⟨h190, h⟩ | ⟨h190, h⟩
                    · refine Wc.condT h190 (by kernel_rfl) ?_
                      refine Wc.seq ?_
                      refine Wc.region [] [] [4] [] [] ⟨[(4, (.v (.int .i64 401), []))], [], []⟩ _ (by kernel_rfl) .nil ?_
                      refine Wc.ret ?_
                      obtain rfl := Option.some.inj h
                      exact ⟨.inl rfl, by kernel_rfl, by kernel_rfl⟩
                    · refine Wc.condF h190 (by kernel_rfl) ?_
                      refine Wc.fix (st' := ⟨[(1, (.v (.int .i64 b146_), [])), (2, (.ptr 2 0, []))], [(2, .cells [.int .i64 c145_.gKind, .str c145_.gName, .int .i64 c145_.gNum, .sl (List.map GTerm.c c145_.gKids)] [])], []⟩) [] [1, 2] [2] [] (by kernel_rfl) ?_
                      refine Wc.skip ?_
                      exact ⟨rfl, h⟩
              · refine Wc.condF h186 (by kernel_rfl) ?_
                refine Wc.seq ?_
                refine Wc.region [] [] [1, 2, 63] [2] [] ⟨[(1, (.v (.int .i64 b146_), [])), (2, (.ptr 2 0, [])), (63, (.v (.bool (c145_.gKind == 4)), []))], [(2, .cells [.int .i64 c145_.gKind, .str c145_.gName, .int .i64 c145_.gNum, .sl (List.map GTerm.c c145_.gKids)] [])], []⟩ _ (by kernel_rfl) .nil ?_
                rcases oif h with ⟨h191, h⟩ | ⟨h191, h⟩
                · refine Wc.condT h191 (by kernel_rfl) ?_
                  refine Wc.seq ?_
                  obtain ⟨d155_, h192, h⟩ := obind h
                  rcases oif h with ⟨h193, h⟩ | ⟨h193, h⟩
                  · refine Wc.region [{}, {}, { r := some (.v (.bool d155_) []) }, {}, { re := some (.bool true) }] [] [1, 2, 80] [2] [] ⟨[(1, (.v (.int .i64 b146_), [])), (2, (.ptr 2 0, [])), (80, (.v (.bool true), []))], [(2, .cells [.int .i64 c145_.gKind, .str c145_.gName, .int .i64 c145_.gNum, .sl (List.map GTerm.c c145_.gKids)] [])], []⟩ _ (by kernel_rfl) (.cons (cimpl_nameOk h192) (.cons (congrArg AV.bool h193) .nil)) ?_
                    refine Wc.condT rfl (by kernel_rfl) ?_
                    refine Wc.seq ?_
                    refine Wc.region [] [] [4] [] [] ⟨[(4, (.v (.int .i64 401), []))], [], []⟩ _ (by kernel_rfl) .nil ?_
                    refine Wc.ret ?_
                    obtain rfl := Option.some.inj h
                    exact ⟨.inl rfl, by kernel_rfl, by kernel_rfl⟩
                  · rcases oif h with ⟨h194, h⟩ | ⟨h194, h⟩
                    · refine Wc.region [{}, {}, { r := some (.v (.bool d155_) []) }, {}, { re := some (.bool false) }, {}, {}, {}, {}, { re := some (.bool true) }] [] [1, 2, 80] [2] [] ⟨[(1, (.v (.int .i64 b146_), [])), (2, (.ptr 2 0, [])), (80, (.v (.bool true), []))], [(2, .cells [.int .i64 c145_.gKind, .str c145_.gName, .int .i64 c145_.gNum, .sl (List.map GTerm.c c145_.gKids)] [])], []⟩ _ (by kernel_rfl) (.cons (cimpl_nameOk h192) (.cons (congrArg AV.bool h193) (.cons (congrArg AV.bool h194) .nil))) ?_
                      refine Wc.condT rfl (by kernel_rfl) ?_
                      refine Wc.seq ?_
                      refine Wc.region [] [] [4] [] [] ⟨[(4, (.v (.int .i64 401), []))], [], []⟩ _ (by kernel_rfl) .nil ?_
                      refine Wc.ret ?_
                      obtain rfl := Option.some.inj h
                      exact ⟨.inl rfl, by kernel_rfl, by kernel_rfl⟩
                    · obtain ⟨d156_, h195, h⟩ := obind h
                      refine Wc.region [{}, {}, { r := some (.v (.bool d155_) []) }, {}, { re := some (.bool false) }, {}, {}, {}, {}, { re := some (.bool false) }, {}, {}, { v := some (.int .i64 (c145_.gKids.length : Int)) }, { r := some (.v (.bool d156_) []) }] [] [1, 2, 80] [2] [] ⟨[(1, (.v (.int .i64 b146_), [])), (2, (.ptr 2 0, [])), (80, (.v (.bool (!d156_)), []))], [(2, .cells [.int .i64 c145_.gKind, .str c145_.gName, .int .i64 c145_.gNum, .sl (List.map GTerm.c c145_.gKids)] [])], []⟩ _ (by kernel_rfl) (.cons (cimpl_nameOk h192) (.cons (congrArg AV.bool h193) (.cons (congrArg AV.bool h194) (.cons (len_obl GTerm.c c145_.gKids) (.cons (cimpl_within h195) .nil))))) ?_
                      rcases oif h with ⟨h196, h⟩ | ⟨h196, h⟩
                      · refine Wc.condT h196 (by kernel_rfl) ?_
                        refine Wc.seq ?_
                        refine Wc.region [] [] [4] [] [] ⟨[(4, (.v (.int .i64 401), []))], [], []⟩ _ (by kernel_rfl) .nil ?_
                        refine Wc.ret ?_
                        obtain rfl := Option.some.inj h
                        exact ⟨.inl rfl, by kernel_rfl, by kernel_rfl⟩
                      · refine Wc.condF h196 (by kernel_rfl) ?_
                        refine Wc.fix (st' := ⟨[(1, (.v (.int .i64 b146_), [])), (2, (.ptr 2 0, []))], [(2, .cells [.int .i64 c145_.gKind, .str c145_.gName, .int .i64 c145_.gNum, .sl (List.map GTerm.c c145_.gKids)] [])], []⟩) [] [1, 2] [2] [] (by kernel_rfl) ?_
                        refine Wc.skip ?_
                        exact ⟨rfl, h⟩
                · refine Wc.condF h191 (by kernel_rfl) ?_
                  refine Wc.seq ?_
                  refine Wc.region [] [] [4] [] [] ⟨[(4, (.v (.int .i64 401), []))], [], []⟩ _ (by kernel_rfl) .nil ?_
                  refine Wc.ret ?_
                  obtain rfl := Option.some.inj h
                  exact ⟨.inl rfl, by kernel_rfl, by kernel_rfl⟩
        · rintro st ⟨rfl, h⟩
          refine Wc.seq ?_
          refine Wc.region [] [] [1, 2, 5] [2] [] ⟨[(1, (.v (.int .i64 b146_), [])), (2, (.ptr 2 0, [])), (5, (.v (.int .i64 1), []))], [(2, .cells [.int .i64 c145_.gKind, .str c145_.gName, .int .i64 c145_.gNum, .sl (List.map GTerm.c c145_.gKids)] [])], []⟩ _ (by kernel_rfl) .nil ?_
          refine Wc.seq ?_
          refine Wc.seq ?_
          refine Wc.region [{}, {}, { v := some (.int .i64 (c145_.gKids.length : Int)) }] [] [1, 5, 82, 83, 84] [] [] ⟨[(1, (.v (.int .i64 b146_), [])), (5, (.v (.int .i64 1), [])), (82, (.v (.sl (List.map GTerm.c c145_.gKids)), [])), (83, (.v (.int .i64 (c145_.gKids.length : Int)), [])), (84, (.v (.int .i64 0), []))], [], []⟩ _ (by kernel_rfl) (.cons (len_obl GTerm.c c145_.gKids) .nil) ?_
          obtain ⟨out2, h171, h⟩ := obind h
          refine Wc.lastJ (fun st => ∃ (b149_ : Int), out2 = .done b149_ ∧ st = ⟨[(5, (.v (.int .i64 b149_), []))], [], []⟩) ?_ ?_
          · refine Wc.block ?_
            refine Wc.loop (fun m st => ∃ (b147_ : Int) (b148_ : Int), st = ⟨[(1, (.v (.int .i64 b146_), [])), (5, (.v (.int .i64 b147_), [])), (82, (.v (.sl (List.map GTerm.c c145_.gKids)), [])), (83, (.v (.int .i64 (c145_.gKids.length : Int)), [])), (84, (.v (.int .i64 b148_), []))], [], []⟩ ∧ pimpl_sized_L2 k (pimpl_sized k) c145_ b146_ m b147_ b148_ = some out2) ?_ k ⟨_, _, rfl, h171⟩
            rintro m st ⟨b147_, b148_, rfl, h171⟩
            cases m with
            | zero => exact (onone h171).elim
            | succ m =>
              refine Wc.seq ?_
              refine Wc.region [] [] [1, 5, 82, 83, 84, 85] [] [] ⟨[(1, (.v (.int .i64 b146_), [])), (5, (.v (.int .i64 b147_), [])), (82, (.v (.sl (List.map GTerm.c c145_.gKids)), [])), (83, (.v (.int .i64 (c145_.gKids.length : Int)), [])), (84, (.v (.int .i64 b148_), [])), (85, (.v (.bool (decide (b148_ < (c145_.gKids.length : Int)))), []))], [], []⟩ _ (by kernel_rfl) .nil ?_
              refine Wc.seq ?_
              rcases oif h171 with ⟨h172, h171⟩ | ⟨h172, h171⟩
              · refine Wc.condT h172 (by kernel_rfl) ?_
                refine Wc.fix (st' := ⟨[(1, (.v (.int .i64 b146_), [])), (5, (.v (.int .i64 b147_), [])), (82, (.v (.sl (List.map GTerm.c c145_.gKids)), [])), (83, (.v (.int .i64 (c145_.gKids.length : Int)), [])), (84, (.v (.int .i64 b148_), []))], [], []⟩) [] [1, 5, 82, 83, 84] [] [] (by kernel_rfl) ?_
                refine Wc.skip ?_
                refine Wc.seq ?_
                refine Wc.block ?_
                refine Wc.seq ?_
                obtain ⟨c150_, h173, h171⟩ := obind h171
                refine Wc.region [{ v := some (.vptr [.int .i64 c150_.gKind, .str c150_.gName, .int .i64 c150_.gNum, .sl (List.map GTerm.c c150_.gKids)]) }] [] [1, 5, 7, 82, 83, 84] [7] [] ⟨[(1, (.v (.int .i64 b146_), [])), (5, (.v (.int .i64 b147_), [])), (7, (.ptr 7 0, [])), (82, (.v (.sl (List.map GTerm.c c145_.gKids)), [])), (83, (.v (.int .i64 (c145_.gKids.length : Int)), [])), (84, (.v (.int .i64 b148_), []))], [(7, .cells [.int .i64 c150_.gKind, .str c150_.gName, .int .i64 c150_.gNum, .sl (List.map GTerm.c c150_.gKids)] [])], []⟩ _ (by kernel_rfl) (.cons (at_obl (c := GTerm.c) (GTerm.c_eq c150_) GTerm.c_len h173) (.cons (len_ok 4 [.int .i64 c150_.gKind, .str c150_.gName, .int .i64 c150_.gNum, .sl (List.map GTerm.c c150_.gKids)]) .nil)) ?_
                refine Wc.seq ?_
                obtain ⟨b151_, h174, h171⟩ := obind h171
                refine Wc.region [{}, {}, {}, {}, { r := some (.v (.int .i64 b151_) []) }] [] [1, 5, 82, 83, 84] [] [] ⟨[(1, (.v (.int .i64 b146_), [])), (5, (.v (.int .i64 (wr.i64 (b147_ + b151_))), [])), (82, (.v (.sl (List.map GTerm.c c145_.gKids)), [])), (83, (.v (.int .i64 (c145_.gKids.length : Int)), [])), (84, (.v (.int .i64 b148_), []))], [], []⟩ _ (by kernel_rfl) (.cons (ih_pimpl_sized h174) .nil) ?_
                refine Wc.seq ?_
                refine Wc.region [] [] [1, 5, 82, 83, 84, 95] [] [] ⟨[(1, (.v (.int .i64 b146_), [])), (5, (.v (.int .i64 (wr.i64 (b147_ + b151_))), [])), (82, (.v (.sl (List.map GTerm.c c145_.gKids)), [])), (83, (.v (.int .i64 (c145_.gKids.length : Int)), [])), (84, (.v (.int .i64 b148_), [])), (95, (.v (.bool (decide ((wr.i64 (b147_ + b151_)) > 400))), []))], [], []⟩ _ (by kernel_rfl) .nil ?_
                rcases oif h171 with ⟨h175, h171⟩ | ⟨h175, h171⟩
                · refine Wc.condT h175 (by kernel_rfl) ?_
                  refine Wc.seq ?_
                  refine Wc.region [] [] [4] [] [] ⟨[(4, (.v (.int .i64 401), []))], [], []⟩ _ (by kernel_rfl) .nil ?_
                  refine Wc.ret ?_
                  obtain rfl := Option.some.inj h171
                  obtain rfl := Option.some.inj h
                  exact ⟨.inl rfl, by kernel_rfl, by kernel_rfl⟩
                · refine Wc.condF h175 (by kernel_rfl) ?_
                  refine Wc.fix (st' := ⟨[(1, (.v (.int .i64 b146_), [])), (5, (.v (.int .i64 (wr.i64 (b147_ + b151_))), [])), (82, (.v (.sl (List.map GTerm.c c145_.gKids)), [])), (83, (.v (.int .i64 (c145_.gKids.length : Int)), [])), (84, (.v (.int .i64 b148_), []))], [], []⟩) [] [1, 5, 82, 83, 84] [] [] (by kernel_rfl) ?_
                  refine Wc.skip ?_
                  refine Wc.region [] [] [1, 5, 82, 83, 84] [] [] ⟨[(1, (.v (.int .i64 b146_), [])), (5, (.v (.int .i64 (wr.i64 (b147_ + b151_))), [])), (82, (.v (.sl (List.map GTerm.c c145_.gKids)), [])), (83, (.v (.int .i64 (c145_.gKids.length : Int)), [])), (84, (.v (.int .i64 (wr.i64 (b148_ + 1))), []))], [], []⟩ _ (by kernel_rfl) .nil ?_
                  exact ⟨_, Nat.lt_succ_self _, _, _, rfl, h171⟩
              · refine Wc.condF h172 (by kernel_rfl) ?_
                refine Wc.fix (st' := ⟨[(5, (.v (.int .i64 b147_), []))], [], []⟩) [] [5] [] [] (by kernel_rfl) ?_
                refine Wc.exit ?_
                obtain rfl := Option.some.inj h171
                exact ⟨_, rfl, rfl⟩
          · rintro st ⟨b149_, rfl, rfl⟩
            refine Wc.seq ?_
            refine Wc.region [] [] [4] [] [] ⟨[(4, (.v (.int .i64 b149_), []))], [], []⟩ _ (by kernel_rfl) .nil ?_
            refine Wc.ret ?_
            obtain rfl := Option.some.inj h
            exact ⟨.inl rfl, by kernel_rfl, by kernel_rfl⟩
theorem cimpl_sized {k : Nat} {c145_ : GTerm} {b146_ : Int} {r : Int} (h : pimpl_sized k c145_ b146_ = some r) : FnO Try.prog 99 [.v (.agg [.int .i64 c145_.gKind, .str c145_.gName, .int .i64 c145_.gNum, .sl (List.map GTerm.c c145_.gKids)]) [], .v (.int .i64 b146_) []] (.v (.int .i64 r) []) [] := (all_pimpl_sized k) h

/-- impl.TermOk -/
def pimpl_TermOk (k : Nat) (c157_ : GTerm) : Option Bool :=
  (pimpl_sized k c157_ 1).bind fun b158_ =>
  some (decide (b158_ ≤ 400))
theorem cimpl_TermOk {k : Nat} {c157_ : GTerm} {r : Bool} (h : pimpl_TermOk k c157_ = some r) : FnO Try.prog 59 [.v (.agg [.int .i64 c157_.gKind, .str c157_.gName, .int .i64 c157_.gNum, .sl (List.map GTerm.c c157_.gKids)]) []] (.v (.bool r) []) [] := by
  refine FnO.of Try.func59 (rfl : Try.f59.body = some _) (Nat.le_of_ble_eq_true (by kernel_rfl)) (Nat.le_of_ble_eq_true (by kernel_rfl)) ?_
  intro w0 X0 Fin pv0 pb
  unfold pimpl_TermOk at h
  refine Wc.seq ?_
  refine Wc.region [] [] [1] [1] [] ⟨[(1, (.ptr 1 0, []))], [(1, .cells [.int .i64 c157_.gKind, .str c157_.gName, .int .i64 c157_.gNum, .sl (List.map GTerm.c c157_.gKids)] [])], []⟩ _ (by kernel_rfl) .nil ?_
  refine Wc.seq ?_
  obtain ⟨b158_, h197, h⟩ := obind h
  refine Wc.region [{}, { r := some (.v (.int .i64 b158_) []) }] [] [2] [] [] ⟨[(2, (.v (.bool (decide (b158_ ≤ 400))), []))], [], []⟩ _ (by kernel_rfl) (.cons (cimpl_sized h197) .nil) ?_
  refine Wc.ret ?_
  obtain rfl := Option.some.inj h
  exact ⟨.inl rfl, by kernel_rfl, by kernel_rfl⟩

/-- impl.structure -/
def pimpl_structure (k : Nat) (e159_ : ByteArray) (a160_ : List GTerm) : Option GTerm :=
  some (GTerm.mk 4 e159_ 0 a160_)
theorem cimpl_structure {k : Nat} {e159_ : ByteArray} {a160_ : List GTerm} {r : GTerm} (h : pimpl_structure k e159_ a160_ = some r) : FnO Try.prog 96 [.v (.str e159_) [], .v (.sl (List.map GTerm.c a160_)) []] (.v (.agg [.int .i64 r.gKind, .str r.gName, .int .i64 r.gNum, .sl (List.map GTerm.c r.gKids)]) []) [] := by
  refine FnO.of Try.func96 (rfl : Try.f96.body = some _) (Nat.le_of_ble_eq_true (by kernel_rfl)) (Nat.le_of_ble_eq_true (by kernel_rfl)) ?_
  intro w0 X0 Fin pv0 pb
  unfold pimpl_structure at h
  refine Wc.seq ?_
  refine Wc.region [] [] [0, 1, 4] [4] [] ⟨[(0, (.v (.str e159_), [])), (1, (.v (.sl (List.map GTerm.c a160_)), [])), (4, (.ptr 4 0, []))], [(4, .cells [.int .i64 0, .str (bs []), .int .i64 0, .sl (List.map GTerm.c [])] [(3, .app 37)])], []⟩ _ (by kernel_rfl) .nil ?_
  refine Wc.seq ?_
  refine Wc.region [] [] [4] [4] [] ⟨[(4, (.ptr 4 0, []))], [(4, .cells [.int .i64 4, .str e159_, .int .i64 0, .sl (List.map GTerm.c a160_)] [])], []⟩ _ (by kernel_rfl) .nil ?_
  refine Wc.ret ?_
  obtain rfl := Option.some.inj h
  exact ⟨.inl rfl, by kernel_rfl, by kernel_rfl⟩

/-- impl.atom -/
def pimpl_atom (k : Nat) (e162_ : ByteArray) : Option GTerm :=
  some (GTerm.mk 2 e162_ 0 [])
theorem cimpl_atom {k : Nat} {e162_ : ByteArray} {r : GTerm} (h : pimpl_atom k e162_ = some r) : FnO Try.prog 106 [.v (.str e162_) []] (.v (.agg [.int .i64 r.gKind, .str r.gName, .int .i64 r.gNum, .sl (List.map GTerm.c r.gKids)]) [(3, .app 37)]) [] := by
  refine FnO.of Try.func106 (rfl : Try.f106.body = some _) (Nat.le_of_ble_eq_true (by kernel_rfl)) (Nat.le_of_ble_eq_true (by kernel_rfl)) ?_
  intro w0 X0 Fin pv0 pb
  unfold pimpl_atom at h
  refine Wc.seq ?_
  refine Wc.region [] [] [0, 2] [2] [] ⟨[(0, (.v (.str e162_), [])), (2, (.ptr 2 0, []))], [(2, .cells [.int .i64 0, .str (bs []), .int .i64 0, .sl (List.map GTerm.c [])] [(3, .app 37)])], []⟩ _ (by kernel_rfl) .nil ?_
  refine Wc.seq ?_
  refine Wc.region [{}, {}, { tk := [4] }] [] [2] [2] [] ⟨[(2, (.ptr 2 0, []))], [(2, .cells [.int .i64 2, .str e162_, .int .i64 0, .sl (List.map GTerm.c [])] [(3, .app 37)])], []⟩ _ (by kernel_rfl) .nil ?_
  refine Wc.ret ?_
  obtain rfl := Option.some.inj h
  exact ⟨.inl rfl, by kernel_rfl, by kernel_rfl⟩

/-- impl.number -/
def pimpl_number (k : Nat) (b164_ : Int) : Option GTerm :=
  some (GTerm.mk 3 (bs []) b164_ [])
theorem cimpl_number {k : Nat} {b164_ : Int} {r : GTerm} (h : pimpl_number k b164_ = some r) : FnO Try.prog 107 [.v (.int .i64 b164_) []] (.v (.agg [.int .i64 r.gKind, .str r.gName, .int .i64 r.gNum, .sl (List.map GTerm.c r.gKids)]) [(3, .app 37)]) [] := by
  refine FnO.of Try.func107 (rfl : Try.f107.body = some _) (Nat.le_of_ble_eq_true (by kernel_rfl)) (Nat.le_of_ble_eq_true (by kernel_rfl)) ?_
  intro w0 X0 Fin pv0 pb
  unfold pimpl_number at h
  refine Wc.seq ?_
  refine Wc.region [] [] [0, 2] [2] [] ⟨[(0, (.v (.int .i64 b164_), [])), (2, (.ptr 2 0, []))], [(2, .cells [.int .i64 0, .str (bs []), .int .i64 0, .sl (List.map GTerm.c [])] [(3, .app 37)])], []⟩ _ (by kernel_rfl) .nil ?_
  refine Wc.seq ?_
  refine Wc.region [{}, {}, { tk := [4] }] [] [2] [2] [] ⟨[(2, (.ptr 2 0, []))], [(2, .cells [.int .i64 3, .str (bs []), .int .i64 b164_, .sl (List.map GTerm.c [])] [(3, .app 37)])], []⟩ _ (by kernel_rfl) .nil ?_
  refine Wc.ret ?_
  obtain rfl := Option.some.inj h
  exact ⟨.inl rfl, by kernel_rfl, by kernel_rfl⟩

/-- impl.variable -/
def pimpl_variable (k : Nat) (b166_ : Int) : Option GTerm :=
  some (GTerm.mk 1 (bs []) b166_ [])
theorem cimpl_variable {k : Nat} {b166_ : Int} {r : GTerm} (h : pimpl_variable k b166_ = some r) : FnO Try.prog 108 [.v (.int .i64 b166_) []] (.v (.agg [.int .i64 r.gKind, .str r.gName, .int .i64 r.gNum, .sl (List.map GTerm.c r.gKids)]) [(3, .app 37)]) [] := by
  refine FnO.of Try.func108 (rfl : Try.f108.body = some _) (Nat.le_of_ble_eq_true (by kernel_rfl)) (Nat.le_of_ble_eq_true (by kernel_rfl)) ?_
  intro w0 X0 Fin pv0 pb
  unfold pimpl_variable at h
  refine Wc.seq ?_
  refine Wc.region [] [] [0, 2] [2] [] ⟨[(0, (.v (.int .i64 b166_), [])), (2, (.ptr 2 0, []))], [(2, .cells [.int .i64 0, .str (bs []), .int .i64 0, .sl (List.map GTerm.c [])] [(3, .app 37)])], []⟩ _ (by kernel_rfl) .nil ?_
  refine Wc.seq ?_
  refine Wc.region [{}, {}, { tk := [4] }] [] [2] [2] [] ⟨[(2, (.ptr 2 0, []))], [(2, .cells [.int .i64 1, .str (bs []), .int .i64 b166_, .sl (List.map GTerm.c [])] [(3, .app 37)])], []⟩ _ (by kernel_rfl) .nil ?_
  refine Wc.ret ?_
  obtain rfl := Option.some.inj h
  exact ⟨.inl rfl, by kernel_rfl, by kernel_rfl⟩

/-- laws.eqIns -/
def plaws_eqIns (k : Nat) (g196_ : GIns) (g197_ : GIns) : Option Bool :=
  if (g196_.gOp != g197_.gOp) = true then
    some false
  else
    if (!(sEq g196_.gName g197_.gName)) = true then
      some false
    else
      if (g196_.gNum != g197_.gNum) = true then
        some false
      else
        if (g196_.gMany != g197_.gMany) = true then
          some false
        else
          some true
theorem claws_eqIns {k : Nat} {g196_ : GIns} {g197_ : GIns} {r : Bool} (h : plaws_eqIns k g196_ g197_ = some r) : FnO Try.prog 69 [.v (.agg [.int .i64 g196_.gOp, .str g196_.gName, .int .i64 g196_.gNum, .int .i64 g196_.gMany]) [], .v (.agg [.int .i64 g197_.gOp, .str g197_.gName, .int .i64 g197_.gNum, .int .i64 g197_.gMany]) []] (.v (.bool r) []) [] := by
  refine FnO.of Try.func69 (rfl : Try.f69.body = some _) (Nat.le_of_ble_eq_true (by kernel_rfl)) (Nat.le_of_ble_eq_true (by kernel_rfl)) ?_
  intro w0 X0 Fin pv0 pb
  unfold plaws_eqIns at h
  refine Wc.seq ?_
  refine Wc.region [] [] [2, 3] [2, 3] [] ⟨[(2, (.ptr 2 0, [])), (3, (.ptr 3 0, []))], [(2, .cells [.int .i64 g196_.gOp, .str g196_.gName, .int .i64 g196_.gNum, .int .i64 g196_.gMany] []), (3, .cells [.int .i64 g197_.gOp, .str g197_.gName, .int .i64 g197_.gNum, .int .i64 g197_.gMany] [])], []⟩ _ (by kernel_rfl) .nil ?_
  refine Wc.seq ?_
  refine Wc.seq ?_
  refine Wc.region [] [] [2, 3, 9] [2, 3] [] ⟨[(2, (.ptr 2 0, [])), (3, (.ptr 3 0, [])), (9, (.v (.bool (g196_.gOp != g197_.gOp)), []))], [(2, .cells [.int .i64 g196_.gOp, .str g196_.gName, .int .i64 g196_.gNum, .int .i64 g196_.gMany] []), (3, .cells [.int .i64 g197_.gOp, .str g197_.gName, .int .i64 g197_.gNum, .int .i64 g197_.gMany] [])], []⟩ _ (by kernel_rfl) .nil ?_
  rcases oif h with ⟨h224, h⟩ | ⟨h224, h⟩
  · refine Wc.condT h224 (by kernel_rfl) ?_
    refine Wc.seq ?_
    refine Wc.region [] [] [4] [] [] ⟨[(4, (.v (.bool false), []))], [], []⟩ _ (by kernel_rfl) .nil ?_
    refine Wc.ret ?_
    obtain rfl := Option.some.inj h
    exact ⟨.inl rfl, by kernel_rfl, by kernel_rfl⟩
  · refine Wc.condF h224 (by kernel_rfl) ?_
    refine Wc.fix (st' := ⟨[(2, (.ptr 2 0, [])), (3, (.ptr 3 0, []))], [(2, .cells [.int .i64 g196_.gOp, .str g196_.gName, .int .i64 g196_.gNum, .int .i64 g196_.gMany] []), (3, .cells [.int .i64 g197_.gOp, .str g197_.gName, .int .i64 g197_.gNum, .int .i64 g197_.gMany] [])], []⟩) [] [2, 3] [2, 3] [] (by kernel_rfl) ?_
    refine Wc.skip ?_
    refine Wc.seq ?_
    refine Wc.seq ?_
    refine Wc.region [] [] [2, 3, 14] [2, 3] [] ⟨[(2, (.ptr 2 0, [])), (3, (.ptr 3 0, [])), (14, (.v (.bool (!(sEq g196_.gName g197_.gName))), []))], [(2, .cells [.int .i64 g196_.gOp, .str g196_.gName, .int .i64 g196_.gNum, .int .i64 g196_.gMany] []), (3, .cells [.int .i64 g197_.gOp, .str g197_.gName, .int .i64 g197_.gNum, .int .i64 g197_.gMany] [])], []⟩ _ (by kernel_rfl) .nil ?_
    rcases oif h with ⟨h225, h⟩ | ⟨h225, h⟩
    · refine Wc.condT h225 (by kernel_rfl) ?_
      refine Wc.seq ?_
      refine Wc.region [] [] [4] [] [] ⟨[(4, (.v (.bool false), []))], [], []⟩ _ (by kernel_rfl) .nil ?_
      refine Wc.ret ?_
      obtain rfl := Option.some.inj h
      exact ⟨.inl rfl, by kernel_rfl, by kernel_rfl⟩
    · refine Wc.condF h225 (by kernel_rfl) ?_
      refine Wc.fix (st' := ⟨[(2, (.ptr 2 0, [])), (3, (.ptr 3 0, []))], [(2, .cells [.int .i64 g196_.gOp, .str g196_.gName, .int .i64 g196_.gNum, .int .i64 g196_.gMany] []), (3, .cells [.int .i64 g197_.gOp, .str g197_.gName, .int .i64 g197_.gNum, .int .i64 g197_.gMany] [])], []⟩) [] [2, 3] [2, 3] [] (by kernel_rfl) ?_
      refine Wc.skip ?_
      refine Wc.seq ?_
      refine Wc.seq ?_
      refine Wc.region [] [] [2, 3, 19] [2, 3] [] ⟨[(2, (.ptr 2 0, [])), (3, (.ptr 3 0, [])), (19, (.v (.bool (g196_.gNum != g197_.gNum)), []))], [(2, .cells [.int .i64 g196_.gOp, .str g196_.gName, .int .i64 g196_.gNum, .int .i64 g196_.gMany] []), (3, .cells [.int .i64 g197_.gOp, .str g197_.gName, .int .i64 g197_.gNum, .int .i64 g197_.gMany] [])], []⟩ _ (by kernel_rfl) .nil ?_
      rcases oif h with ⟨h226, h⟩ | ⟨h226, h⟩
      · refine Wc.condT h226 (by kernel_rfl) ?_
        refine Wc.seq ?_
        refine Wc.region [] [] [4] [] [] ⟨[(4, (.v (.bool false), []))], [], []⟩ _ (by kernel_rfl) .nil ?_
        refine Wc.ret ?_
        obtain rfl := Option.some.inj h
        exact ⟨.inl rfl, by kernel_rfl, by kernel_rfl⟩
      · refine Wc.condF h226 (by kernel_rfl) ?_
        refine Wc.fix (st' := ⟨[(2, (.ptr 2 0, [])), (3, (.ptr 3 0, []))], [(2, .cells [.int .i64 g196_.gOp, .str g196_.gName, .int .i64 g196_.gNum, .int .i64 g196_.gMany] []), (3, .cells [.int .i64 g197_.gOp, .str g197_.gName, .int .i64 g197_.gNum, .int .i64 g197_.gMany] [])], []⟩) [] [2, 3] [2, 3] [] (by kernel_rfl) ?_
        refine Wc.skip ?_
        refine Wc.seq ?_
        refine Wc.seq ?_
        refine Wc.region [] [] [24] [] [] ⟨[(24, (.v (.bool (g196_.gMany != g197_.gMany)), []))], [], []⟩ _ (by kernel_rfl) .nil ?_
        rcases oif h with ⟨h227, h⟩ | ⟨h227, h⟩
        · refine Wc.condT h227 (by kernel_rfl) ?_
          refine Wc.seq ?_
          refine Wc.region [] [] [4] [] [] ⟨[(4, (.v (.bool false), []))], [], []⟩ _ (by kernel_rfl) .nil ?_
          refine Wc.ret ?_
          obtain rfl := Option.some.inj h
          exact ⟨.inl rfl, by kernel_rfl, by kernel_rfl⟩
        · refine Wc.condF h227 (by kernel_rfl) ?_
          refine Wc.fix (st' := ⟨[], [], []⟩) [] [] [] [] (by kernel_rfl) ?_
          refine Wc.skip ?_
          refine Wc.seq ?_
          refine Wc.region [] [] [4] [] [] ⟨[(4, (.v (.bool true), []))], [], []⟩ _ (by kernel_rfl) .nil ?_
          refine Wc.ret ?_
          obtain rfl := Option.some.inj h
          exact ⟨.inl rfl, by kernel_rfl, by kernel_rfl⟩

def plaws_eqInsS_L1 (k : Nat) (i198_ : List GIns) (i199_ : List GIns) : Nat → Int → Option (Out Bool Unit)
  | 0, _ => none
  | m + 1, b200_ =>
    if (decide (b200_ < (i198_.length : Int))) = true then
      (at' i198_ b200_).bind fun g201_ =>
      (at' i199_ b200_).bind fun g202_ =>
      (plaws_eqIns k g201_ g202_).bind fun d203_ =>
      if (!d203_) = true then
        some (.ret false)
      else
        plaws_eqInsS_L1 k i198_ i199_ m (wr.i64 (b200_ + 1))
    else
      some (.done ())
/-- laws.eqInsS -/
def plaws_eqInsS (k : Nat) (i198_ : List GIns) (i199_ : List GIns) : Option Bool :=
  if ((i198_.length : Int) != (i199_.length : Int)) = true then
    some false
  else
    (plaws_eqInsS_L1 k i198_ i199_ k 0).bind fun out1 => match out1 with
    | .ret r => some r
    | .done () =>
      some true
theorem claws_eqInsS {k : Nat} {i198_ : List GIns} {i199_ : List GIns} {r : Bool} (h : plaws_eqInsS k i198_ i199_ = some r) : FnO Try.prog 27 [.v (.sl (List.map GIns.c i198_)) [], .v (.sl (List.map GIns.c i199_)) []] (.v (.bool r) []) [] := by
  refine FnO.of Try.func27 (rfl : Try.f27.body = some _) (Nat.le_of_ble_eq_true (by kernel_rfl)) (Nat.le_of_ble_eq_true (by kernel_rfl)) ?_
  intro w0 X0 Fin pv0 pb
  unfold plaws_eqInsS at h
  refine Wc.seq ?_
  refine Wc.region [] [] [0, 1] [] [] ⟨[(0, (.v (.sl (List.map GIns.c i198_)), [])), (1, (.v (.sl (List.map GIns.c i199_)), []))], [], []⟩ _ (by kernel_rfl) .nil ?_
  refine Wc.seq ?_
  refine Wc.seq ?_
  refine Wc.region [{}, { v := some (.int .i64 (i198_.length : Int)) }, {}, { v := some (.int .i64 (i199_.length : Int)) }] [] [0, 1, 10] [] [] ⟨[(0, (.v (.sl (List.map GIns.c i198_)), [])), (1, (.v (.sl (List.map GIns.c i199_)), [])), (10, (.v (.bool ((i198_.length : Int) != (i199_.length : Int))), []))], [], []⟩ _ (by kernel_rfl) (.cons (len_obl GIns.c i198_) (.cons (len_obl GIns.c i199_) .nil)) ?_
  rcases oif h with ⟨h228, h⟩ | ⟨h228, h⟩
  · refine Wc.condT h228 (by kernel_rfl) ?_
    refine Wc.seq ?_
    refine Wc.region [] [] [4] [] [] ⟨[(4, (.v (.bool false), []))], [], []⟩ _ (by kernel_rfl) .nil ?_
    refine Wc.ret ?_
    obtain rfl := Option.some.inj h
    exact ⟨.inl rfl, by kernel_rfl, by kernel_rfl⟩
  · refine Wc.condF h228 (by kernel_rfl) ?_
    refine Wc.fix (st' := ⟨[(0, (.v (.sl (List.map GIns.c i198_)), [])), (1, (.v (.sl (List.map GIns.c i199_)), []))], [], []⟩) [] [0, 1] [] [] (by kernel_rfl) ?_
    refine Wc.skip ?_
    refine Wc.seq ?_
    refine Wc.seq ?_
    refine Wc.region [] [] [0, 1, 5] [] [] ⟨[(0, (.v (.sl (List.map GIns.c i198_)), [])), (1, (.v (.sl (List.map GIns.c i199_)), [])), (5, (.v (.int .i64 0), []))], [], []⟩ _ (by kernel_rfl) .nil ?_
    obtain ⟨out1, h229, h⟩ := obind h
    refine Wc.lastJ (fun st => out1 = .done () ∧ st = ⟨[], [], []⟩) ?_ ?_
    · refine Wc.block ?_
      refine Wc.loop (fun m st => ∃ (b200_ : Int), st = ⟨[(0, (.v (.sl (List.map GIns.c i198_)), [])), (1, (.v (.sl (List.map GIns.c i199_)), [])), (5, (.v (.int .i64 b200_), []))], [], []⟩ ∧ plaws_eqInsS_L1 k i198_ i199_ m b200_ = some out1) ?_ k ⟨_, rfl, h229⟩
      rintro m st ⟨b200_, rfl, h229⟩
      cases m with
      | zero => exact (onone h229).elim
      | succ m =>
        refine Wc.seq ?_
        refine Wc.seq ?_
        refine Wc.region [{}, {}, { v := some (.int .i64 (i198_.length : Int)) }] [] [0, 1, 5, 14] [] [] ⟨[(0, (.v (.sl (List.map GIns.c i198_)), [])), (1, (.v (.sl (List.map GIns.c i199_)), [])), (5, (.v (.int .i64 b200_), [])), (14, (.v (.bool (decide (b200_ < (i198_.length : Int)))), []))], [], []⟩ _ (by kernel_rfl) (.cons (len_obl GIns.c i198_) .nil) ?_
        rcases oif h229 with ⟨h230, h229⟩ | ⟨h230, h229⟩
        · refine Wc.condT h230 (by kernel_rfl) ?_
          refine Wc.fix (st' := ⟨[(0, (.v (.sl (List.map GIns.c i198_)), [])), (1, (.v (.sl (List.map GIns.c i199_)), [])), (5, (.v (.int .i64 b200_), []))], [], []⟩) [] [0, 1, 5] [] [] (by kernel_rfl) ?_
          refine Wc.skip ?_
          refine Wc.seq ?_
          refine Wc.block ?_
          refine Wc.seq ?_
          obtain ⟨g201_, h231, h229⟩ := obind h229
          obtain ⟨g202_, h232, h229⟩ := obind h229
          obtain ⟨d203_, h233, h229⟩ := obind h229
          refine Wc.draw hmix [{}, {}, { v := some (.vptr [.int .i64 g201_.gOp, .str g201_.gName, .int .i64 g201_.gNum, .int .i64 g201_.gMany]) }, {}, {}, {}, { v := some (.vptr [.int .i64 g202_.gOp, .str g202_.gName, .int .i64 g202_.gNum, .int .i64 g202_.gMany]) }, {}, { r := some (.v (.bool d203_) []) }] [] [0, 1, 5, 26] [] [] ⟨[(0, (.v (.sl (List.map GIns.c i198_)), [])), (1, (.v (.sl (List.map GIns.c i199_)), [])), (5, (.v (.int .i64 b200_), [])), (26, (.v (.bool (!d203_)), []))], [], []⟩ _ (by kernel_rfl) (fun X => by kernel_rfl) (.cons (at_obl (c := GIns.c) (GIns.c_eq g201_) GIns.c_len h231) (.cons (len_ok 4 [.int .i64 g201_.gOp, .str g201_.gName, .int .i64 g201_.gNum, .int .i64 g201_.gMany]) (.cons (at_obl (c := GIns.c) (GIns.c_eq g202_) GIns.c_len h232) (.cons (len_ok 4 [.int .i64 g202_.gOp, .str g202_.gName, .int .i64 g202_.gNum, .int .i64 g202_.gMany]) (.cons (claws_eqIns h233) .nil))))) ?_
          rcases oif h229 with ⟨h234, h229⟩ | ⟨h234, h229⟩
          · refine Wc.condT h234 (by kernel_rfl) ?_
            refine Wc.seq ?_
            refine Wc.region [] [] [4] [] [] ⟨[(4, (.v (.bool false), []))], [], []⟩ _ (by kernel_rfl) .nil ?_
            refine Wc.ret ?_
            obtain rfl := Option.some.inj h229
            obtain rfl := Option.some.inj h
            exact ⟨.inl rfl, by kernel_rfl, by kernel_rfl⟩
          · refine Wc.condF h234 (by kernel_rfl) ?_
            refine Wc.fix (st' := ⟨[(0, (.v (.sl (List.map GIns.c i198_)), [])), (1, (.v (.sl (List.map GIns.c i199_)), [])), (5, (.v (.int .i64 b200_), []))], [], []⟩) [] [0, 1, 5] [] [] (by kernel_rfl) ?_
            refine Wc.skip ?_
            refine Wc.region [] [] [0, 1, 5] [] [] ⟨[(0, (.v (.sl (List.map GIns.c i198_)), [])), (1, (.v (.sl (List.map GIns.c i199_)), [])), (5, (.v (.int .i64 (wr.i64 (b200_ + 1))), []))], [], []⟩ _ (by kernel_rfl) .nil ?_
            exact ⟨_, Nat.lt_succ_self _, _, rfl, h229⟩
        · refine Wc.condF h230 (by kernel_rfl) ?_
          refine Wc.fix (st' := ⟨[], [], []⟩) [] [] [] [] (by kernel_rfl) ?_
          refine Wc.exit ?_
          obtain rfl := Option.some.inj h229
          exact ⟨rfl, rfl⟩
    · rintro st ⟨rfl, rfl⟩
      refine Wc.seq ?_
      refine Wc.region [] [] [4] [] [] ⟨[(4, (.v (.bool true), []))], [], []⟩ _ (by kernel_rfl) .nil ?_
      refine Wc.ret ?_
      obtain rfl := Option.some.inj h
      exact ⟨.inl rfl, by kernel_rfl, by kernel_rfl⟩

def plaws_markInsS_L1 (k : Nat) : Nat → Int → Int → (List GIns) → Option (Out ((List GIns) × Int) (Int × (List GIns)))
  | 0, _, _, _ => none
  | m + 1, b206_, b207_, i208_ =>
    if (decide (b207_ < (i208_.length : Int))) = true then
      (at' i208_ b207_).bind fun g211_ =>
      (plaws_markText k (wr.i64 (b206_ + 1))).bind fun e212_ =>
      (at' (i208_.set ((b207_).toNat) (GIns.mk b206_ g211_.gName g211_.gNum g211_.gMany)) b207_).bind fun g213_ =>
      (at' ((i208_.set ((b207_).toNat) (GIns.mk b206_ g211_.gName g211_.gNum g211_.gMany)).set ((b207_).toNat) (GIns.mk g213_.gOp e212_ g213_.gNum g213_.gMany)) b207_).bind fun g214_ =>
      (at' (((i208_.set ((b207_).toNat) (GIns.mk b206_ g211_.gName g211_.gNum g211_.gMany)).set ((b207_).toNat) (GIns.mk g213_.gOp e212_ g213_.gNum g213_.gMany)).set ((b207_).toNat) (GIns.mk g214_.gOp g214_.gName (wr.i64 ((wr.i64 (b206_ + 1)) + 1)) g214_.gMany)) b207_).bind fun g215_ =>
      plaws_markInsS_L1 k m (wr.i64 ((wr.i64 ((wr.i64 ((wr.i64 (b206_ + 1)) + 1)) + 1)) + 1)) (wr.i64 (b207_ + 1)) ((((i208_.set ((b207_).toNat) (GIns.mk b206_ g211_.gName g211_.gNum g211_.gMany)).set ((b207_).toNat) (GIns.mk g213_.gOp e212_ g213_.gNum g213_.gMany)).set ((b207_).toNat) (GIns.mk g214_.gOp g214_.gName (wr.i64 ((wr.i64 (b206_ + 1)) + 1)) g214_.gMany)).set ((b207_).toNat) (GIns.mk g215_.gOp g215_.gName g215_.gNum (wr.i64 ((wr.i64 ((wr.i64 (b206_ + 1)) + 1)) + 1))))
    else
      some (.done (b206_, i208_))
/-- laws.markInsS -/
def plaws_markInsS (k : Nat) (i204_ : List GIns) (b205_ : Int) : Option ((List GIns) × Int) :=
  (plaws_markInsS_L1 k k b205_ 0 i204_).bind fun out1 => match out1 with
  | .ret r => some r
  | .done (b209_, i210_) =>
    some (i210_, b209_)
theorem claws_markInsS {k : Nat} {i204_ : List GIns} {b205_ : Int} {r : (List GIns) × Int} (h : plaws_markInsS k i204_ b205_ = some r) : FnO Try.prog 28 [.io (.slx) [(0, .ex 1000000007 true (List.map GIns.c i204_))], .v (.int .i64 b205_) []] (.v (.int .i64 r.2) []) [(0, .v .undef [(0, .ex 1000000007 true (List.map GIns.c r.1))])] := by
  refine FnO.of Try.func28 (rfl : Try.f28.body = some _) (Nat.le_of_ble_eq_true (by kernel_rfl)) (Nat.le_of_ble_eq_true (by kernel_rfl)) ?_
  intro w0 X0 Fin pv0 pb
  unfold plaws_markInsS at h
  refine Wc.seq ?_
  refine Wc.region [] [] [0, 1] [] [0] ⟨[(0, (.v (.slx), [(0, .al (.a 0 0) [])])), (1, (.v (.int .i64 b205_), []))], [], [(0, [(0, .ex 1000000007 true (List.map GIns.c i204_))])]⟩ _ (by kernel_rfl) .nil ?_
  refine Wc.seq ?_
  refine Wc.seq ?_
  refine Wc.region [] [] [0, 1, 5] [] [0] ⟨[(0, (.v (.slx), [(0, .al (.a 0 0) [])])), (1, (.v (.int .i64 b205_), [])), (5, (.v (.int .i64 0), []))], [], [(0, [(0, .ex 1000000007 true (List.map GIns.c i204_))])]⟩ _ (by kernel_rfl) .nil ?_
  obtain ⟨out1, h235, h⟩ := obind h
  refine Wc.lastJ (fun st => ∃ (b209_ : Int) (i210_ : List GIns), out1 = .done (b209_, i210_) ∧ st = ⟨[(1, (.v (.int .i64 b209_), []))], [], [(0, [(0, .ex 1000000007 true (List.map GIns.c i210_))])]⟩) ?_ ?_
  · refine Wc.block ?_
    refine Wc.loop (fun m st => ∃ (b206_ : Int) (b207_ : Int) (i208_ : List GIns), st = ⟨[(0, (.v (.slx), [(0, .al (.a 0 0) [])])), (1, (.v (.int .i64 b206_), [])), (5, (.v (.int .i64 b207_), []))], [], [(0, [(0, .ex 1000000007 true (List.map GIns.c i208_))])]⟩ ∧ plaws_markInsS_L1 k m b206_ b207_ i208_ = some out1) ?_ k ⟨_, _, _, rfl, h235⟩
    rintro m st ⟨b206_, b207_, i208_, rfl, h235⟩
    cases m with
    | zero => exact (onone h235).elim
    | succ m =>
      refine Wc.seq ?_
      refine Wc.seq ?_
      refine Wc.region [{}, {}, { v := some (.int .i64 (i208_.length : Int)) }] [] [0, 1, 5, 9] [] [0] ⟨[(0, (.v (.slx), [(0, .al (.a 0 0) [])])), (1, (.v (.int .i64 b206_), [])), (5, (.v (.int .i64 b207_), [])), (9, (.v (.bool (decide (b207_ < (i208_.length : Int)))), []))], [], [(0, [(0, .ex 1000000007 true (List.map GIns.c i208_))])]⟩ _ (by kernel_rfl) (.cons (len_obl GIns.c i208_) .nil) ?_
      rcases oif h235 with ⟨h236, h235⟩ | ⟨h236, h235⟩
      · refine Wc.condT h236 (by kernel_rfl) ?_
        refine Wc.fix (st' := ⟨[(0, (.v (.slx), [(0, .al (.a 0 0) [])])), (1, (.v (.int .i64 b206_), [])), (5, (.v (.int .i64 b207_), []))], [], [(0, [(0, .ex 1000000007 true (List.map GIns.c i208_))])]⟩) [] [0, 1, 5] [] [0] (by kernel_rfl) ?_
        refine Wc.skip ?_
        refine Wc.seq ?_
        refine Wc.block ?_
        refine Wc.seq ?_
        obtain ⟨g211_, h237, h235⟩ := obind h235
        refine Wc.region [{}, {}, {}, {}, {}, { c := some (List.map GIns.c (i208_.set ((b207_).toNat) (GIns.mk b206_ g211_.gName g211_.gNum g211_.gMany))) }] [] [0, 1, 5] [] [0] ⟨[(0, (.v (.slx), [(0, .al (.a 0 0) [])])), (1, (.v (.int .i64 b206_), [])), (5, (.v (.int .i64 b207_), []))], [], [(0, [(0, .ex 1000000007 true (List.map GIns.c (i208_.set ((b207_).toNat) (GIns.mk b206_ g211_.gName g211_.gNum g211_.gMany))))])]⟩ _ (by kernel_rfl) (.cons (ix_obl (c := GIns.c) GIns.c_len h237) (.cons (mod_obl (off := 0) (new := [.int .i64 b206_]) (c := GIns.c) (GIns.c_eq g211_) (GIns.c_eq (GIns.mk b206_ g211_.gName g211_.gNum g211_.gMany)) (at'_spec h237).2 rfl) (.cons (st_obl (sz := 4) (off := 0) (s := 1) (c := GIns.c) (GIns.c_eq g211_) (at'_spec h237).2 rfl (Nat.le_of_ble_eq_true rfl)) .nil))) ?_
        refine Wc.seq ?_
        refine Wc.region [] [] [0, 1, 5] [] [0] ⟨[(0, (.v (.slx), [(0, .al (.a 0 0) [])])), (1, (.v (.int .i64 (wr.i64 (b206_ + 1))), [])), (5, (.v (.int .i64 b207_), []))], [], [(0, [(0, .ex 1000000007 true (List.map GIns.c (i208_.set ((b207_).toNat) (GIns.mk b206_ g211_.gName g211_.gNum g211_.gMany))))])]⟩ _ (by kernel_rfl) .nil ?_
        refine Wc.seq ?_
        obtain ⟨e212_, h238, h235⟩ := obind h235
        obtain ⟨g213_, h239, h235⟩ := obind h235
        refine Wc.region [{}, {}, {}, { r := some (.v (.str e212_) []) }, {}, {}, { c := some (List.map GIns.c ((i208_.set ((b207_).toNat) (GIns.mk b206_ g211_.gName g211_.gNum g211_.gMany)).set ((b207_).toNat) (GIns.mk g213_.gOp e212_ g213_.gNum g213_.gMany))) }] [] [0, 1, 5] [] [0] ⟨[(0, (.v (.slx), [(0, .al (.a 0 0) [])])), (1, (.v (.int .i64 (wr.i64 (b206_ + 1))), [])), (5, (.v (.int .i64 b207_), []))], [], [(0, [(0, .ex 1000000007 true (List.map GIns.c ((i208_.set ((b207_).toNat) (GIns.mk b206_ g211_.gName g211_.gNum g211_.gMany)).set ((b207_).toNat) (GIns.mk g213_.gOp e212_ g213_.gNum g213_.gMany))))])]⟩ _ (by kernel_rfl) (.cons (claws_markText h238) (.cons (ix_obl (c := GIns.c) GIns.c_len h239) (.cons (mod_obl (off := 1) (new := [.str e212_]) (c := GIns.c) (GIns.c_eq g213_) (GIns.c_eq (GIns.mk g213_.gOp e212_ g213_.gNum g213_.gMany)) (at'_spec h239).2 rfl) (.cons (st_obl (sz := 4) (off := 1) (s := 1) (c := GIns.c) (GIns.c_eq g213_) (at'_spec h239).2 rfl (Nat.le_of_ble_eq_true rfl)) .nil)))) ?_
        refine Wc.seq ?_
        refine Wc.region [] [] [0, 1, 5] [] [0] ⟨[(0, (.v (.slx), [(0, .al (.a 0 0) [])])), (1, (.v (.int .i64 (wr.i64 ((wr.i64 (b206_ + 1)) + 1))), [])), (5, (.v (.int .i64 b207_), []))], [], [(0, [(0, .ex 1000000007 true (List.map GIns.c ((i208_.set ((b207_).toNat) (GIns.mk b206_ g211_.gName g211_.gNum g211_.gMany)).set ((b207_).toNat) (GIns.mk g213_.gOp e212_ g213_.gNum g213_.gMany))))])]⟩ _ (by kernel_rfl) .nil ?_
        refine Wc.seq ?_
        obtain ⟨g214_, h240, h235⟩ := obind h235
        refine Wc.region [{}, {}, {}, {}, {}, { c := some (List.map GIns.c (((i208_.set ((b207_).toNat) (GIns.mk b206_ g211_.gName g211_.gNum g211_.gMany)).set ((b207_).toNat) (GIns.mk g213_.gOp e212_ g213_.gNum g213_.gMany)).set ((b207_).toNat) (GIns.mk g214_.gOp g214_.gName (wr.i64 ((wr.i64 (b206_ + 1)) + 1)) g214_.gMany))) }] [] [0, 1, 5] [] [0] ⟨[(0, (.v (.slx), [(0, .al (.a 0 0) [])])), (1, (.v (.int .i64 (wr.i64 ((wr.i64 (b206_ + 1)) + 1))), [])), (5, (.v (.int .i64 b207_), []))], [], [(0, [(0, .ex 1000000007 true (List.map GIns.c (((i208_.set ((b207_).toNat) (GIns.mk b206_ g211_.gName g211_.gNum g211_.gMany)).set ((b207_).toNat) (GIns.mk g213_.gOp e212_ g213_.gNum g213_.gMany)).set ((b207_).toNat) (GIns.mk g214_.gOp g214_.gName (wr.i64 ((wr.i64 (b206_ + 1)) + 1)) g214_.gMany))))])]⟩ _ (by kernel_rfl) (.cons (ix_obl (c := GIns.c) GIns.c_len h240) (.cons (mod_obl (off := 2) (new := [.int .i64 (wr.i64 ((wr.i64 (b206_ + 1)) + 1))]) (c := GIns.c) (GIns.c_eq g214_) (GIns.c_eq (GIns.mk g214_.gOp g214_.gName (wr.i64 ((wr.i64 (b206_ + 1)) + 1)) g214_.gMany)) (at'_spec h240).2 rfl) (.cons (st_obl (sz := 4) (off := 2) (s := 1) (c := GIns.c) (GIns.c_eq g214_) (at'_spec h240).2 rfl (Nat.le_of_ble_eq_true rfl)) .nil))) ?_
        refine Wc.seq ?_
        refine Wc.region [] [] [0, 1, 5] [] [0] ⟨[(0, (.v (.slx), [(0, .al (.a 0 0) [])])), (1, (.v (.int .i64 (wr.i64 ((wr.i64 ((wr.i64 (b206_ + 1)) + 1)) + 1))), [])), (5, (.v (.int .i64 b207_), []))], [], [(0, [(0, .ex 1000000007 true (List.map GIns.c (((i208_.set ((b207_).toNat) (GIns.mk b206_ g211_.gName g211_.gNum g211_.gMany)).set ((b207_).toNat) (GIns.mk g213_.gOp e212_ g213_.gNum g213_.gMany)).set ((b207_).toNat) (GIns.mk g214_.gOp g214_.gName (wr.i64 ((wr.i64 (b206_ + 1)) + 1)) g214_.gMany))))])]⟩ _ (by kernel_rfl) .nil ?_
        refine Wc.seq ?_
        obtain ⟨g215_, h241, h235⟩ := obind h235
        refine Wc.region [{}, {}, {}, {}, {}, { c := some (List.map GIns.c ((((i208_.set ((b207_).toNat) (GIns.mk b206_ g211_.gName g211_.gNum g211_.gMany)).set ((b207_).toNat) (GIns.mk g213_.gOp e212_ g213_.gNum g213_.gMany)).set ((b207_).toNat) (GIns.mk g214_.gOp g214_.gName (wr.i64 ((wr.i64 (b206_ + 1)) + 1)) g214_.gMany)).set ((b207_).toNat) (GIns.mk g215_.gOp g215_.gName g215_.gNum (wr.i64 ((wr.i64 ((wr.i64 (b206_ + 1)) + 1)) + 1))))) }] [] [0, 1, 5] [] [0] ⟨[(0, (.v (.slx), [(0, .al (.a 0 0) [])])), (1, (.v (.int .i64 (wr.i64 ((wr.i64 ((wr.i64 (b206_ + 1)) + 1)) + 1))), [])), (5, (.v (.int .i64 b207_), []))], [], [(0, [(0, .ex 1000000007 true (List.map GIns.c ((((i208_.set ((b207_).toNat) (GIns.mk b206_ g211_.gName g211_.gNum g211_.gMany)).set ((b207_).toNat) (GIns.mk g213_.gOp e212_ g213_.gNum g213_.gMany)).set ((b207_).toNat) (GIns.mk g214_.gOp g214_.gName (wr.i64 ((wr.i64 (b206_ + 1)) + 1)) g214_.gMany)).set ((b207_).toNat) (GIns.mk g215_.gOp g215_.gName g215_.gNum (wr.i64 ((wr.i64 ((wr.i64 (b206_ + 1)) + 1)) + 1))))))])]⟩ _ (by kernel_rfl) (.cons (ix_obl (c := GIns.c) GIns.c_len h241) (.cons (mod_obl (off := 3) (new := [.int .i64 (wr.i64 ((wr.i64 ((wr.i64 (b206_ + 1)) + 1)) + 1))]) (c := GIns.c) (GIns.c_eq g215_) (GIns.c_eq (GIns.mk g215_.gOp g215_.gName g215_.gNum (wr.i64 ((wr.i64 ((wr.i64 (b206_ + 1)) + 1)) + 1)))) (at'_spec h241).2 rfl) (.cons (st_obl (sz := 4) (off := 3) (s := 1) (c := GIns.c) (GIns.c_eq g215_) (at'_spec h241).2 rfl (Nat.le_of_ble_eq_true rfl)) .nil))) ?_
        refine Wc.region [] [] [0, 1, 5] [] [0] ⟨[(0, (.v (.slx), [(0, .al (.a 0 0) [])])), (1, (.v (.int .i64 (wr.i64 ((wr.i64 ((wr.i64 ((wr.i64 (b206_ + 1)) + 1)) + 1)) + 1))), [])), (5, (.v (.int .i64 b207_), []))], [], [(0, [(0, .ex 1000000007 true (List.map GIns.c ((((i208_.set ((b207_).toNat) (GIns.mk b206_ g211_.gName g211_.gNum g211_.gMany)).set ((b207_).toNat) (GIns.mk g213_.gOp e212_ g213_.gNum g213_.gMany)).set ((b207_).toNat) (GIns.mk g214_.gOp g214_.gName (wr.i64 ((wr.i64 (b206_ + 1)) + 1)) g214_.gMany)).set ((b207_).toNat) (GIns.mk g215_.gOp g215_.gName g215_.gNum (wr.i64 ((wr.i64 ((wr.i64 (b206_ + 1)) + 1)) + 1))))))])]⟩ _ (by kernel_rfl) .nil ?_
        refine Wc.region [] [] [0, 1, 5] [] [0] ⟨[(0, (.v (.slx), [(0, .al (.a 0 0) [])])), (1, (.v (.int .i64 (wr.i64 ((wr.i64 ((wr.i64 ((wr.i64 (b206_ + 1)) + 1)) + 1)) + 1))), [])), (5, (.v (.int .i64 (wr.i64 (b207_ + 1))), []))], [], [(0, [(0, .ex 1000000007 true (List.map GIns.c ((((i208_.set ((b207_).toNat) (GIns.mk b206_ g211_.gName g211_.gNum g211_.gMany)).set ((b207_).toNat) (GIns.mk g213_.gOp e212_ g213_.gNum g213_.gMany)).set ((b207_).toNat) (GIns.mk g214_.gOp g214_.gName (wr.i64 ((wr.i64 (b206_ + 1)) + 1)) g214_.gMany)).set ((b207_).toNat) (GIns.mk g215_.gOp g215_.gName g215_.gNum (wr.i64 ((wr.i64 ((wr.i64 (b206_ + 1)) + 1)) + 1))))))])]⟩ _ (by kernel_rfl) .nil ?_
        exact ⟨_, Nat.lt_succ_self _, _, _, _, rfl, h235⟩
      · refine Wc.condF h236 (by kernel_rfl) ?_
        refine Wc.fix (st' := ⟨[(1, (.v (.int .i64 b206_), []))], [], [(0, [(0, .ex 1000000007 true (List.map GIns.c i208_))])]⟩) [] [1] [] [0] (by kernel_rfl) ?_
        refine Wc.exit ?_
        obtain rfl := Option.some.inj h235
        exact ⟨_, _, rfl, rfl⟩
  · rintro st ⟨b209_, i210_, rfl, rfl⟩
    refine Wc.seq ?_
    refine Wc.region [] [] [4] [] [0] ⟨[(4, (.v (.int .i64 b209_), []))], [], [(0, [(0, .ex 1000000007 true (List.map GIns.c i210_))])]⟩ _ (by kernel_rfl) .nil ?_
    refine Wc.ret ?_
    obtain rfl := Option.some.inj h
    exact ⟨.inl rfl, by kernel_rfl, by kernel_rfl⟩

/-- impl.atom -/
def pimpl_atom_d (k : Nat) (e222_ : ByteArray) : Option GTerm :=
  some (GTerm.mk 2 e222_ 0 [])
theorem cimpl_atom_d {k : Nat} {e222_ : ByteArray} {r : GTerm} (h : pimpl_atom_d k e222_ = some r) : FnO Try.prog 106 [.v (.str e222_) []] (.v (.agg [.int .i64 r.gKind, .str r.gName, .int .i64 r.gNum, .slx]) [(3, .ex 37 true (List.map GTerm.c r.gKids))]) [] := by
  refine FnO.of Try.func106 (rfl : Try.f106.body = some _) (Nat.le_of_ble_eq_true (by kernel_rfl)) (Nat.le_of_ble_eq_true (by kernel_rfl)) ?_
  intro w0 X0 Fin pv0 pb
  unfold pimpl_atom_d at h
  refine Wc.seq ?_
  refine Wc.region [] [] [0, 2] [2] [] ⟨[(0, (.v (.str e222_), [])), (2, (.ptr 2 0, []))], [(2, .cells [.int .i64 0, .str (bs []), .int .i64 0, .sl (List.map GTerm.c [])] [(3, .app 37)])], []⟩ _ (by kernel_rfl) .nil ?_
  refine Wc.seq ?_
  refine Wc.region [{}, {}, { tk := [4] }] [] [2] [2] [] ⟨[(2, (.ptr 2 0, []))], [(2, .cells [.int .i64 2, .str e222_, .int .i64 0, .sl (List.map GTerm.c [])] [(3, .app 37)])], []⟩ _ (by kernel_rfl) .nil ?_
  refine Wc.fix (st' := ⟨[(2, (.ptr 2 0, []))], [(2, .cells [.int .i64 2, .str e222_, .int .i64 0, .slx] [(3, .ex 37 true (List.map GTerm.c []))])], []⟩) [.ow (.b 2 3) true] [2] [2] [] (by kernel_rfl) ?_
  refine Wc.ret ?_
  obtain rfl := Option.some.inj h
  exact ⟨.inl rfl, by kernel_rfl, by kernel_rfl⟩

/-- impl.number -/
def pimpl_number_d (k : Nat) (b225_ : Int) : Option GTerm :=
  some (GTerm.mk 3 (bs []) b225_ [])
theorem cimpl_number_d {k : Nat} {b225_ : Int} {r : GTerm} (h : pimpl_number_d k b225_ = some r) : FnO Try.prog 107 [.v (.int .i64 b225_) []] (.v (.agg [.int .i64 r.gKind, .str r.gName, .int .i64 r.gNum, .slx]) [(3, .ex 37 true (List.map GTerm.c r.gKids))]) [] := by
  refine FnO.of Try.func107 (rfl : Try.f107.body = some _) (Nat.le_of_ble_eq_true (by kernel_rfl)) (Nat.le_of_ble_eq_true (by kernel_rfl)) ?_
  intro w0 X0 Fin pv0 pb
  unfold pimpl_number_d at h
  refine Wc.seq ?_
  refine Wc.region [] [] [0, 2] [2] [] ⟨[(0, (.v (.int .i64 b225_), [])), (2, (.ptr 2 0, []))], [(2, .cells [.int .i64 0, .str (bs []), .int .i64 0, .sl (List.map GTerm.c [])] [(3, .app 37)])], []⟩ _ (by kernel_rfl) .nil ?_
  refine Wc.seq ?_
  refine Wc.region [{}, {}, { tk := [4] }] [] [2] [2] [] ⟨[(2, (.ptr 2 0, []))], [(2, .cells [.int .i64 3, .str (bs []), .int .i64 b225_, .sl (List.map GTerm.c [])] [(3, .app 37)])], []⟩ _ (by kernel_rfl) .nil ?_
  refine Wc.fix (st' := ⟨[(2, (.ptr 2 0, []))], [(2, .cells [.int .i64 3, .str (bs []), .int .i64 b225_, .slx] [(3, .ex 37 true (List.map GTerm.c []))])], []⟩) [.ow (.b 2 3) true] [2] [2] [] (by kernel_rfl) ?_
  refine Wc.ret ?_
  obtain rfl := Option.some.inj h
  exact ⟨.inl rfl, by kernel_rfl, by kernel_rfl⟩

/-- impl.variable -/
def pimpl_variable_d (k : Nat) (b229_ : Int) : Option GTerm :=
  some (GTerm.mk 1 (bs []) b229_ [])
theorem cimpl_variable_d {k : Nat} {b229_ : Int} {r : GTerm} (h : pimpl_variable_d k b229_ = some r) : FnO Try.prog 108 [.v (.int .i64 b229_) []] (.v (.agg [.int .i64 r.gKind, .str r.gName, .int .i64 r.gNum, .slx]) [(3, .ex 37 true (List.map GTerm.c r.gKids))]) [] := by
  refine FnO.of Try.func108 (rfl : Try.f108.body = some _) (Nat.le_of_ble_eq_true (by kernel_rfl)) (Nat.le_of_ble_eq_true (by kernel_rfl)) ?_
  intro w0 X0 Fin pv0 pb
  unfold pimpl_variable_d at h
  refine Wc.seq ?_
  refine Wc.region [] [] [0, 2] [2] [] ⟨[(0, (.v (.int .i64 b229_), [])), (2, (.ptr 2 0, []))], [(2, .cells [.int .i64 0, .str (bs []), .int .i64 0, .sl (List.map GTerm.c [])] [(3, .app 37)])], []⟩ _ (by kernel_rfl) .nil ?_
  refine Wc.seq ?_
  refine Wc.region [{}, {}, { tk := [4] }] [] [2] [2] [] ⟨[(2, (.ptr 2 0, []))], [(2, .cells [.int .i64 1, .str (bs []), .int .i64 b229_, .sl (List.map GTerm.c [])] [(3, .app 37)])], []⟩ _ (by kernel_rfl) .nil ?_
  refine Wc.fix (st' := ⟨[(2, (.ptr 2 0, []))], [(2, .cells [.int .i64 1, .str (bs []), .int .i64 b229_, .slx] [(3, .ex 37 true (List.map GTerm.c []))])], []⟩) [.ow (.b 2 3) true] [2] [2] [] (by kernel_rfl) ?_
  refine Wc.ret ?_
  obtain rfl := Option.some.inj h
  exact ⟨.inl rfl, by kernel_rfl, by kernel_rfl⟩

/-- impl.structure -/
def pimpl_structure_d (k : Nat) (e228_ : ByteArray) (a229_ : List GTerm) : Option GTerm :=
  some (GTerm.mk 4 e228_ 0 a229_)
theorem cimpl_structure_d {k : Nat} {e228_ : ByteArray} {a229_ : List GTerm} {r : GTerm} (h : pimpl_structure_d k e228_ a229_ = some r) : FnO Try.prog 96 [.v (.str e228_) [], .v (.slx) [(0, .ex 37 true (List.map GTerm.c a229_))]] (.v (.agg [.int .i64 r.gKind, .str r.gName, .int .i64 r.gNum, .slx]) [(3, .ex 37 true (List.map GTerm.c r.gKids))]) [] := by
  refine FnO.of Try.func96 (rfl : Try.f96.body = some _) (Nat.le_of_ble_eq_true (by kernel_rfl)) (Nat.le_of_ble_eq_true (by kernel_rfl)) ?_
  intro w0 X0 Fin pv0 pb
  unfold pimpl_structure_d at h
  refine Wc.seq ?_
  refine Wc.region [] [] [0, 1, 4] [4] [] ⟨[(0, (.v (.str e228_), [])), (1, (.v (.slx), [(0, .ex 37 true (List.map GTerm.c a229_))])), (4, (.ptr 4 0, []))], [(4, .cells [.int .i64 0, .str (bs []), .int .i64 0, .sl (List.map GTerm.c [])] [(3, .app 37)])], []⟩ _ (by kernel_rfl) .nil ?_
  refine Wc.seq ?_
  refine Wc.region [{}, { tk := [1] }, { tk := [6] }, { tk := [7] }] [] [4] [4] [] ⟨[(4, (.ptr 4 0, []))], [(4, .cells [.int .i64 4, .str e228_, .int .i64 0, .slx] [(3, .ex 37 true (List.map GTerm.c a229_))])], []⟩ _ (by kernel_rfl) .nil ?_
  refine Wc.ret ?_
  obtain rfl := Option.some.inj h
  exact ⟨.inl rfl, by kernel_rfl, by kernel_rfl⟩
end Go.Proofs.Ytbfkmgenokhkgaa

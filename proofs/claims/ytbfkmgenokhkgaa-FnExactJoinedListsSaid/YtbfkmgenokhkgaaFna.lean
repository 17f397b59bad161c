/- What the functions do, part 1. -/
import Derived.Test.YtbfkmgenokhkgaaTy
set_option linter.unusedVariables false
set_option linter.unusedSimpArgs false
namespace Go.Proofs.Ytbfkmgenokhkgaa
open Go.RowKit Go.Bv
def plaws_szTermS_L1 (k : Nat) (rlaws_szTerm : GTerm → Int → Option Int) (rlaws_szTermS : (List GTerm) → Int → Option Int) (a4_ : List GTerm) : Nat → Int → Int → Option (Out Int Int)
  | 0, _, _ => none
  | m + 1, b6_, b7_ =>
    if (decide (b7_ < (a4_.length : Int))) = true then
      (at' a4_ b7_).bind fun c9_ =>
      (rlaws_szTerm c9_ b6_).bind fun b10_ =>
      if (decide (b10_ < 0)) = true then
        some (.ret (-1))
      else
        plaws_szTermS_L1 k rlaws_szTerm rlaws_szTermS a4_ m b10_ (wr.i64 (b7_ + 1))
    else
      some (.done b6_)
mutual
/-- laws.szTerm -/
def plaws_szTerm : Nat → GTerm → Int → Option Int
  | 0, _, _ => none
  | k + 1, c1_, b2_ =>
    if (decide ((wr.i64 (b2_ - (c1_.gName.size : Int))) < 0)) = true then
      some (-1)
    else
      (plaws_szTermS k c1_.gKids (wr.i64 (b2_ - (c1_.gName.size : Int)))).bind fun b3_ =>
      if (decide (b3_ < 0)) = true then
        some (-1)
      else
        some b3_
/-- laws.szTermS -/
def plaws_szTermS : Nat → (List GTerm) → Int → Option Int
  | 0, _, _ => none
  | k + 1, a4_, b5_ =>
    if (decide ((wr.i64 (b5_ - (a4_.length : Int))) < 0)) = true then
      some (-1)
    else
      (plaws_szTermS_L1 k (plaws_szTerm k) (plaws_szTermS k) a4_ k (wr.i64 (b5_ - (a4_.length : Int))) 0).bind fun out1 => match out1 with
      | .ret r => some r
      | .done b8_ =>
        some b8_
end
theorem all_plaws_szTerm : ∀ k : Nat, (∀ {c1_ : GTerm} {b2_ : Int} {r : Int}, plaws_szTerm k c1_ b2_ = some r → FnO Try.prog 16 [.v (.agg [.int .i64 c1_.gKind, .str c1_.gName, .int .i64 c1_.gNum, .sl (List.map GTerm.c c1_.gKids)]) [], .v (.int .i64 b2_) []] (.v (.int .i64 r) []) []) ∧
    (∀ {a4_ : List GTerm} {b5_ : Int} {r : Int}, plaws_szTermS k a4_ b5_ = some r → FnO Try.prog 52 [.v (.sl (List.map GTerm.c a4_)) [], .v (.int .i64 b5_) []] (.v (.int .i64 r) []) []) := by
  intro k
  induction k with
  | zero =>
    refine ⟨?_, ?_⟩
    · intro c1_ b2_ r h
      exact (onone (by rw [plaws_szTerm] at h; exact h)).elim
    · intro a4_ b5_ r h
      exact (onone (by rw [plaws_szTermS] at h; exact h)).elim
  | succ k ih =>
    obtain ⟨ih_plaws_szTerm, ih_plaws_szTermS⟩ := ih
    refine ⟨?_, ?_⟩
    · intro c1_ b2_ r h
      rw [plaws_szTerm] at h
      refine FnO.of Try.func16 (rfl : Try.f16.body = some _) (Nat.le_of_ble_eq_true (by kernel_rfl)) (Nat.le_of_ble_eq_true (by kernel_rfl)) ?_
      intro w0 X0 Fin pv0 pb
      refine Wc.seq ?_
      refine Wc.region [] [] [1, 2] [2] [] ⟨[(1, (.v (.int .i64 b2_), [])), (2, (.ptr 2 0, []))], [(2, .cells [.int .i64 c1_.gKind, .str c1_.gName, .int .i64 c1_.gNum, .sl (List.map GTerm.c c1_.gKids)] [])], []⟩ _ (by kernel_rfl) .nil ?_
      refine Wc.seq ?_
      refine Wc.region [] [] [1, 2] [2] [] ⟨[(1, (.v (.int .i64 (wr.i64 (b2_ - (c1_.gName.size : Int)))), [])), (2, (.ptr 2 0, []))], [(2, .cells [.int .i64 c1_.gKind, .str c1_.gName, .int .i64 c1_.gNum, .sl (List.map GTerm.c c1_.gKids)] [])], []⟩ _ (by kernel_rfl) .nil ?_
      refine Wc.seq ?_
      refine Wc.seq ?_
      refine Wc.region [] [] [1, 2, 11] [2] [] ⟨[(1, (.v (.int .i64 (wr.i64 (b2_ - (c1_.gName.size : Int)))), [])), (2, (.ptr 2 0, [])), (11, (.v (.bool (decide ((wr.i64 (b2_ - (c1_.gName.size : Int))) < 0))), []))], [(2, .cells [.int .i64 c1_.gKind, .str c1_.gName, .int .i64 c1_.gNum, .sl (List.map GTerm.c c1_.gKids)] [])], []⟩ _ (by kernel_rfl) .nil ?_
      rcases oif h with ⟨h1, h⟩ | ⟨h1, h⟩
      · refine Wc.condT h1 (by kernel_rfl) ?_
        refine Wc.seq ?_
        refine Wc.region [] [] [4] [] [] ⟨[(4, (.v (.int .i64 (-1)), []))], [], []⟩ _ (by kernel_rfl) .nil ?_
        refine Wc.ret ?_
        obtain rfl := Option.some.inj h
        exact ⟨.inl rfl, by kernel_rfl, by kernel_rfl⟩
      · refine Wc.condF h1 (by kernel_rfl) ?_
        refine Wc.fix (st' := ⟨[(1, (.v (.int .i64 (wr.i64 (b2_ - (c1_.gName.size : Int)))), [])), (2, (.ptr 2 0, []))], [(2, .cells [.int .i64 c1_.gKind, .str c1_.gName, .int .i64 c1_.gNum, .sl (List.map GTerm.c c1_.gKids)] [])], []⟩) [] [1, 2] [2] [] (by kernel_rfl) ?_
        refine Wc.skip ?_
        refine Wc.seq ?_
        obtain ⟨b3_, h2, h⟩ := obind h
        refine Wc.region [{}, {}, {}, { r := some (.v (.int .i64 b3_) []) }] [] [1] [] [] ⟨[(1, (.v (.int .i64 b3_), []))], [], []⟩ _ (by kernel_rfl) (.cons (ih_plaws_szTermS h2) .nil) ?_
        refine Wc.seq ?_
        refine Wc.seq ?_
        refine Wc.region [] [] [1, 17] [] [] ⟨[(1, (.v (.int .i64 b3_), [])), (17, (.v (.bool (decide (b3_ < 0))), []))], [], []⟩ _ (by kernel_rfl) .nil ?_
        rcases oif h with ⟨h3, h⟩ | ⟨h3, h⟩
        · refine Wc.condT h3 (by kernel_rfl) ?_
          refine Wc.seq ?_
          refine Wc.region [] [] [4] [] [] ⟨[(4, (.v (.int .i64 (-1)), []))], [], []⟩ _ (by kernel_rfl) .nil ?_
          refine Wc.ret ?_
          obtain rfl := Option.some.inj h
          exact ⟨.inl rfl, by kernel_rfl, by kernel_rfl⟩
        · refine Wc.condF h3 (by kernel_rfl) ?_
          refine Wc.fix (st' := ⟨[(1, (.v (.int .i64 b3_), []))], [], []⟩) [] [1] [] [] (by kernel_rfl) ?_
          refine Wc.skip ?_
          refine Wc.seq ?_
          refine Wc.region [] [] [4] [] [] ⟨[(4, (.v (.int .i64 b3_), []))], [], []⟩ _ (by kernel_rfl) .nil ?_
          refine Wc.ret ?_
          obtain rfl := Option.some.inj h
          exact ⟨.inl rfl, by kernel_rfl, by kernel_rfl⟩
    · intro a4_ b5_ r h
      rw [plaws_szTermS] at h
      refine FnO.of Try.func52 (rfl : Try.f52.body = some _) (Nat.le_of_ble_eq_true (by kernel_rfl)) (Nat.le_of_ble_eq_true (by kernel_rfl)) ?_
      intro w0 X0 Fin pv0 pb
      refine Wc.seq ?_
      refine Wc.region [] [] [0, 1] [] [] ⟨[(0, (.v (.sl (List.map GTerm.c a4_)), [])), (1, (.v (.int .i64 b5_), []))], [], []⟩ _ (by kernel_rfl) .nil ?_
      refine Wc.seq ?_
      refine Wc.region [{}, {}, { v := some (.int .i64 (a4_.length : Int)) }] [] [0, 1] [] [] ⟨[(0, (.v (.sl (List.map GTerm.c a4_)), [])), (1, (.v (.int .i64 (wr.i64 (b5_ - (a4_.length : Int)))), []))], [], []⟩ _ (by kernel_rfl) (.cons (len_obl GTerm.c a4_) .nil) ?_
      refine Wc.seq ?_
      refine Wc.seq ?_
      refine Wc.region [] [] [0, 1, 11] [] [] ⟨[(0, (.v (.sl (List.map GTerm.c a4_)), [])), (1, (.v (.int .i64 (wr.i64 (b5_ - (a4_.length : Int)))), [])), (11, (.v (.bool (decide ((wr.i64 (b5_ - (a4_.length : Int))) < 0))), []))], [], []⟩ _ (by kernel_rfl) .nil ?_
      rcases oif h with ⟨h4, h⟩ | ⟨h4, h⟩
      · refine Wc.condT h4 (by kernel_rfl) ?_
        refine Wc.seq ?_
        refine Wc.region [] [] [4] [] [] ⟨[(4, (.v (.int .i64 (-1)), []))], [], []⟩ _ (by kernel_rfl) .nil ?_
        refine Wc.ret ?_
        obtain rfl := Option.some.inj h
        exact ⟨.inl rfl, by kernel_rfl, by kernel_rfl⟩
      · refine Wc.condF h4 (by kernel_rfl) ?_
        refine Wc.fix (st' := ⟨[(0, (.v (.sl (List.map GTerm.c a4_)), [])), (1, (.v (.int .i64 (wr.i64 (b5_ - (a4_.length : Int)))), []))], [], []⟩) [] [0, 1] [] [] (by kernel_rfl) ?_
        refine Wc.skip ?_
        refine Wc.seq ?_
        refine Wc.seq ?_
        refine Wc.region [] [] [0, 1, 5] [] [] ⟨[(0, (.v (.sl (List.map GTerm.c a4_)), [])), (1, (.v (.int .i64 (wr.i64 (b5_ - (a4_.length : Int)))), [])), (5, (.v (.int .i64 0), []))], [], []⟩ _ (by kernel_rfl) .nil ?_
        obtain ⟨out1, h5, h⟩ := obind h
        refine Wc.lastJ (fun st => ∃ (b8_ : Int), out1 = .done b8_ ∧ st = ⟨[(1, (.v (.int .i64 b8_), []))], [], []⟩) ?_ ?_
        · refine Wc.block ?_
          refine Wc.loop (fun m st => ∃ (b6_ : Int) (b7_ : Int), st = ⟨[(0, (.v (.sl (List.map GTerm.c a4_)), [])), (1, (.v (.int .i64 b6_), [])), (5, (.v (.int .i64 b7_), []))], [], []⟩ ∧ plaws_szTermS_L1 k (plaws_szTerm k) (plaws_szTermS k) a4_ m b6_ b7_ = some out1) ?_ k ⟨_, _, rfl, h5⟩
          rintro m st ⟨b6_, b7_, rfl, h5⟩
          cases m with
          | zero => exact (onone h5).elim
          | succ m =>
            refine Wc.seq ?_
            refine Wc.seq ?_
            refine Wc.region [{}, {}, { v := some (.int .i64 (a4_.length : Int)) }] [] [0, 1, 5, 15] [] [] ⟨[(0, (.v (.sl (List.map GTerm.c a4_)), [])), (1, (.v (.int .i64 b6_), [])), (5, (.v (.int .i64 b7_), [])), (15, (.v (.bool (decide (b7_ < (a4_.length : Int)))), []))], [], []⟩ _ (by kernel_rfl) (.cons (len_obl GTerm.c a4_) .nil) ?_
            rcases oif h5 with ⟨h6, h5⟩ | ⟨h6, h5⟩
            · refine Wc.condT h6 (by kernel_rfl) ?_
              refine Wc.fix (st' := ⟨[(0, (.v (.sl (List.map GTerm.c a4_)), [])), (1, (.v (.int .i64 b6_), [])), (5, (.v (.int .i64 b7_), []))], [], []⟩) [] [0, 1, 5] [] [] (by kernel_rfl) ?_
              refine Wc.skip ?_
              refine Wc.seq ?_
              refine Wc.block ?_
              refine Wc.seq ?_
              obtain ⟨c9_, h7, h5⟩ := obind h5
              obtain ⟨b10_, h8, h5⟩ := obind h5
              refine Wc.region [{}, {}, { v := some (.vptr [.int .i64 c9_.gKind, .str c9_.gName, .int .i64 c9_.gNum, .sl (List.map GTerm.c c9_.gKids)]) }, {}, {}, { r := some (.v (.int .i64 b10_) []) }] [] [0, 1, 5] [] [] ⟨[(0, (.v (.sl (List.map GTerm.c a4_)), [])), (1, (.v (.int .i64 b10_), [])), (5, (.v (.int .i64 b7_), []))], [], []⟩ _ (by kernel_rfl) (.cons (at_obl (c := GTerm.c) (GTerm.c_eq c9_) GTerm.c_len h7) (.cons (len_ok 4 [.int .i64 c9_.gKind, .str c9_.gName, .int .i64 c9_.gNum, .sl (List.map GTerm.c c9_.gKids)]) (.cons (ih_plaws_szTerm h8) .nil))) ?_
              refine Wc.seq ?_
              refine Wc.region [] [] [0, 1, 5, 25] [] [] ⟨[(0, (.v (.sl (List.map GTerm.c a4_)), [])), (1, (.v (.int .i64 b10_), [])), (5, (.v (.int .i64 b7_), [])), (25, (.v (.bool (decide (b10_ < 0))), []))], [], []⟩ _ (by kernel_rfl) .nil ?_
              rcases oif h5 with ⟨h9, h5⟩ | ⟨h9, h5⟩
              · refine Wc.condT h9 (by kernel_rfl) ?_
                refine Wc.seq ?_
                refine Wc.region [] [] [4] [] [] ⟨[(4, (.v (.int .i64 (-1)), []))], [], []⟩ _ (by kernel_rfl) .nil ?_
                refine Wc.ret ?_
                obtain rfl := Option.some.inj h5
                obtain rfl := Option.some.inj h
                exact ⟨.inl rfl, by kernel_rfl, by kernel_rfl⟩
              · refine Wc.condF h9 (by kernel_rfl) ?_
                refine Wc.fix (st' := ⟨[(0, (.v (.sl (List.map GTerm.c a4_)), [])), (1, (.v (.int .i64 b10_), [])), (5, (.v (.int .i64 b7_), []))], [], []⟩) [] [0, 1, 5] [] [] (by kernel_rfl) ?_
                refine Wc.skip ?_
                refine Wc.region [] [] [0, 1, 5] [] [] ⟨[(0, (.v (.sl (List.map GTerm.c a4_)), [])), (1, (.v (.int .i64 b10_), [])), (5, (.v (.int .i64 (wr.i64 (b7_ + 1))), []))], [], []⟩ _ (by kernel_rfl) .nil ?_
                exact ⟨_, Nat.lt_succ_self _, _, _, rfl, h5⟩
            · refine Wc.condF h6 (by kernel_rfl) ?_
              refine Wc.fix (st' := ⟨[(1, (.v (.int .i64 b6_), []))], [], []⟩) [] [1] [] [] (by kernel_rfl) ?_
              refine Wc.exit ?_
              obtain rfl := Option.some.inj h5
              exact ⟨_, rfl, rfl⟩
        · rintro st ⟨b8_, rfl, rfl⟩
          refine Wc.seq ?_
          refine Wc.region [] [] [4] [] [] ⟨[(4, (.v (.int .i64 b8_), []))], [], []⟩ _ (by kernel_rfl) .nil ?_
          refine Wc.ret ?_
          obtain rfl := Option.some.inj h
          exact ⟨.inl rfl, by kernel_rfl, by kernel_rfl⟩
theorem claws_szTerm {k : Nat} {c1_ : GTerm} {b2_ : Int} {r : Int} (h : plaws_szTerm k c1_ b2_ = some r) : FnO Try.prog 16 [.v (.agg [.int .i64 c1_.gKind, .str c1_.gName, .int .i64 c1_.gNum, .sl (List.map GTerm.c c1_.gKids)]) [], .v (.int .i64 b2_) []] (.v (.int .i64 r) []) [] := (all_plaws_szTerm k).1 h
theorem claws_szTermS {k : Nat} {a4_ : List GTerm} {b5_ : Int} {r : Int} (h : plaws_szTermS k a4_ b5_ = some r) : FnO Try.prog 52 [.v (.sl (List.map GTerm.c a4_)) [], .v (.int .i64 b5_) []] (.v (.int .i64 r) []) [] := (all_plaws_szTerm k).2 h

def pspec_l03Count_L1 (k : Nat) (rspec_l03Count : GTerm → Int → Option Int) (c11_ : GTerm) : Nat → Int → Int → Option (Out Int Int)
  | 0, _, _ => none
  | m + 1, b13_, b14_ =>
    if (decide (b14_ < (c11_.gKids.length : Int))) = true then
      if (decide (b13_ ≥ 0)) = true then
        (at' c11_.gKids b14_).bind fun c16_ =>
        (rspec_l03Count c16_ b13_).bind fun b17_ =>
        pspec_l03Count_L1 k rspec_l03Count c11_ m b17_ (wr.i64 (b14_ + 1))
      else
        some (.done b13_)
    else
      some (.done b13_)
mutual
/-- spec.l03Count -/
def pspec_l03Count : Nat → GTerm → Int → Option Int
  | 0, _, _ => none
  | k + 1, c11_, b12_ =>
    (pspec_l03Count_L1 k (pspec_l03Count k) c11_ k (wr.i64 (b12_ - 1)) 0).bind fun out1 => match out1 with
    | .ret r => some r
    | .done b15_ =>
      some b15_
end
theorem all_pspec_l03Count : ∀ k : Nat, (∀ {c11_ : GTerm} {b12_ : Int} {r : Int}, pspec_l03Count k c11_ b12_ = some r → FnO Try.prog 104 [.v (.agg [.int .i64 c11_.gKind, .str c11_.gName, .int .i64 c11_.gNum, .sl (List.map GTerm.c c11_.gKids)]) [], .v (.int .i64 b12_) []] (.v (.int .i64 r) []) []) := by
  intro k
  induction k with
  | zero =>
    · intro c11_ b12_ r h
      exact (onone (by rw [pspec_l03Count] at h; exact h)).elim
  | succ k ih =>
    have ih_pspec_l03Count := @ih
    · intro c11_ b12_ r h
      rw [pspec_l03Count] at h
      refine FnO.of Try.func104 (rfl : Try.f104.body = some _) (Nat.le_of_ble_eq_true (by kernel_rfl)) (Nat.le_of_ble_eq_true (by kernel_rfl)) ?_
      intro w0 X0 Fin pv0 pb
      refine Wc.seq ?_
      refine Wc.region [] [] [1, 2] [2] [] ⟨[(1, (.v (.int .i64 b12_), [])), (2, (.ptr 2 0, []))], [(2, .cells [.int .i64 c11_.gKind, .str c11_.gName, .int .i64 c11_.gNum, .sl (List.map GTerm.c c11_.gKids)] [])], []⟩ _ (by kernel_rfl) .nil ?_
      refine Wc.seq ?_
      refine Wc.region [] [] [1, 2] [2] [] ⟨[(1, (.v (.int .i64 (wr.i64 (b12_ - 1))), [])), (2, (.ptr 2 0, []))], [(2, .cells [.int .i64 c11_.gKind, .str c11_.gName, .int .i64 c11_.gNum, .sl (List.map GTerm.c c11_.gKids)] [])], []⟩ _ (by kernel_rfl) .nil ?_
      refine Wc.seq ?_
      refine Wc.seq ?_
      refine Wc.region [] [] [1, 2, 5] [2] [] ⟨[(1, (.v (.int .i64 (wr.i64 (b12_ - 1))), [])), (2, (.ptr 2 0, [])), (5, (.v (.int .i64 0), []))], [(2, .cells [.int .i64 c11_.gKind, .str c11_.gName, .int .i64 c11_.gNum, .sl (List.map GTerm.c c11_.gKids)] [])], []⟩ _ (by kernel_rfl) .nil ?_
      obtain ⟨out1, h10, h⟩ := obind h
      refine Wc.lastJ (fun st => ∃ (b15_ : Int), out1 = .done b15_ ∧ st = ⟨[(1, (.v (.int .i64 b15_), []))], [], []⟩) ?_ ?_
      · refine Wc.block ?_
        refine Wc.loop (fun m st => ∃ (b13_ : Int) (b14_ : Int), st = ⟨[(1, (.v (.int .i64 b13_), [])), (2, (.ptr 2 0, [])), (5, (.v (.int .i64 b14_), []))], [(2, .cells [.int .i64 c11_.gKind, .str c11_.gName, .int .i64 c11_.gNum, .sl (List.map GTerm.c c11_.gKids)] [])], []⟩ ∧ pspec_l03Count_L1 k (pspec_l03Count k) c11_ m b13_ b14_ = some out1) ?_ k ⟨_, _, rfl, h10⟩
        rintro m st ⟨b13_, b14_, rfl, h10⟩
        cases m with
        | zero => exact (onone h10).elim
        | succ m =>
          refine Wc.seq ?_
          refine Wc.seq ?_
          rcases oif h10 with ⟨h11, h10⟩ | ⟨h11, h10⟩
          · refine Wc.region [{}, {}, {}, { v := some (.int .i64 (c11_.gKids.length : Int)) }, {}, { re := some (.bool true) }] [] [1, 2, 5, 16] [2] [] ⟨[(1, (.v (.int .i64 b13_), [])), (2, (.ptr 2 0, [])), (5, (.v (.int .i64 b14_), [])), (16, (.v (.bool (decide (b13_ ≥ 0))), []))], [(2, .cells [.int .i64 c11_.gKind, .str c11_.gName, .int .i64 c11_.gNum, .sl (List.map GTerm.c c11_.gKids)] [])], []⟩ _ (by kernel_rfl) (.cons (len_obl GTerm.c c11_.gKids) (.cons (congrArg AV.bool h11) .nil)) ?_
            rcases oif h10 with ⟨h12, h10⟩ | ⟨h12, h10⟩
            · refine Wc.condT h12 (by kernel_rfl) ?_
              refine Wc.fix (st' := ⟨[(1, (.v (.int .i64 b13_), [])), (2, (.ptr 2 0, [])), (5, (.v (.int .i64 b14_), []))], [(2, .cells [.int .i64 c11_.gKind, .str c11_.gName, .int .i64 c11_.gNum, .sl (List.map GTerm.c c11_.gKids)] [])], []⟩) [] [1, 2, 5] [2] [] (by kernel_rfl) ?_
              refine Wc.skip ?_
              refine Wc.seq ?_
              refine Wc.block ?_
              obtain ⟨c16_, h13, h10⟩ := obind h10
              obtain ⟨b17_, h14, h10⟩ := obind h10
              refine Wc.region [{}, {}, {}, { v := some (.vptr [.int .i64 c16_.gKind, .str c16_.gName, .int .i64 c16_.gNum, .sl (List.map GTerm.c c16_.gKids)]) }, {}, {}, { r := some (.v (.int .i64 b17_) []) }] [] [1, 2, 5] [2] [] ⟨[(1, (.v (.int .i64 b17_), [])), (2, (.ptr 2 0, [])), (5, (.v (.int .i64 b14_), []))], [(2, .cells [.int .i64 c11_.gKind, .str c11_.gName, .int .i64 c11_.gNum, .sl (List.map GTerm.c c11_.gKids)] [])], []⟩ _ (by kernel_rfl) (.cons (at_obl (c := GTerm.c) (GTerm.c_eq c16_) GTerm.c_len h13) (.cons (len_ok 4 [.int .i64 c16_.gKind, .str c16_.gName, .int .i64 c16_.gNum, .sl (List.map GTerm.c c16_.gKids)]) (.cons (ih_pspec_l03Count h14) .nil))) ?_
              refine Wc.region [] [] [1, 2, 5] [2] [] ⟨[(1, (.v (.int .i64 b17_), [])), (2, (.ptr 2 0, [])), (5, (.v (.int .i64 (wr.i64 (b14_ + 1))), []))], [(2, .cells [.int .i64 c11_.gKind, .str c11_.gName, .int .i64 c11_.gNum, .sl (List.map GTerm.c c11_.gKids)] [])], []⟩ _ (by kernel_rfl) .nil ?_
              exact ⟨_, Nat.lt_succ_self _, _, _, rfl, h10⟩
            · refine Wc.condF h12 (by kernel_rfl) ?_
              refine Wc.fix (st' := ⟨[(1, (.v (.int .i64 b13_), []))], [], []⟩) [] [1] [] [] (by kernel_rfl) ?_
              refine Wc.exit ?_
              obtain rfl := Option.some.inj h10
              exact ⟨_, rfl, rfl⟩
          · refine Wc.region [{}, {}, {}, { v := some (.int .i64 (c11_.gKids.length : Int)) }, {}, { re := some (.bool false) }] [] [1, 2, 5, 16] [2] [] ⟨[(1, (.v (.int .i64 b13_), [])), (2, (.ptr 2 0, [])), (5, (.v (.int .i64 b14_), [])), (16, (.v (.bool false), []))], [(2, .cells [.int .i64 c11_.gKind, .str c11_.gName, .int .i64 c11_.gNum, .sl (List.map GTerm.c c11_.gKids)] [])], []⟩ _ (by kernel_rfl) (.cons (len_obl GTerm.c c11_.gKids) (.cons (congrArg AV.bool h11) .nil)) ?_
            refine Wc.condF rfl (by kernel_rfl) ?_
            refine Wc.fix (st' := ⟨[(1, (.v (.int .i64 b13_), []))], [], []⟩) [] [1] [] [] (by kernel_rfl) ?_
            refine Wc.exit ?_
            obtain rfl := Option.some.inj h10
            exact ⟨_, rfl, rfl⟩
      · rintro st ⟨b15_, rfl, rfl⟩
        refine Wc.seq ?_
        refine Wc.region [] [] [4] [] [] ⟨[(4, (.v (.int .i64 b15_), []))], [], []⟩ _ (by kernel_rfl) .nil ?_
        refine Wc.ret ?_
        obtain rfl := Option.some.inj h
        exact ⟨.inl rfl, by kernel_rfl, by kernel_rfl⟩
theorem cspec_l03Count {k : Nat} {c11_ : GTerm} {b12_ : Int} {r : Int} (h : pspec_l03Count k c11_ b12_ = some r) : FnO Try.prog 104 [.v (.agg [.int .i64 c11_.gKind, .str c11_.gName, .int .i64 c11_.gNum, .sl (List.map GTerm.c c11_.gKids)]) [], .v (.int .i64 b12_) []] (.v (.int .i64 r) []) [] := (all_pspec_l03Count k) h

/-- spec.l01In -/
def pspec_l01In (k : Nat) (b18_ : Int) (b19_ : Int) (b20_ : Int) : Option Bool :=
  if (decide (b18_ ≥ b19_)) = true then
    some (decide (b18_ ≤ b20_))
  else
    some false
theorem cspec_l01In {k : Nat} {b18_ : Int} {b19_ : Int} {b20_ : Int} {r : Bool} (h : pspec_l01In k b18_ b19_ b20_ = some r) : FnO Try.prog 100 [.v (.int .i64 b18_) [], .v (.int .i64 b19_) [], .v (.int .i64 b20_) []] (.v (.bool r) []) [] := by
  refine FnO.of Try.func100 (rfl : Try.f100.body = some _) (Nat.le_of_ble_eq_true (by kernel_rfl)) (Nat.le_of_ble_eq_true (by kernel_rfl)) ?_
  intro w0 X0 Fin pv0 pb
  unfold pspec_l01In at h
  refine Wc.seq ?_
  refine Wc.region [] [] [0, 1, 2] [] [] ⟨[(0, (.v (.int .i64 b18_), [])), (1, (.v (.int .i64 b19_), [])), (2, (.v (.int .i64 b20_), []))], [], []⟩ _ (by kernel_rfl) .nil ?_
  refine Wc.seq ?_
  rcases oif h with ⟨h15, h⟩ | ⟨h15, h⟩
  · refine Wc.region [{}, {}, {}, { re := some (.bool true) }] [] [6] [] [] ⟨[(6, (.v (.bool (decide (b18_ ≤ b20_))), []))], [], []⟩ _ (by kernel_rfl) (.cons (congrArg AV.bool h15) .nil) ?_
    refine Wc.ret ?_
    obtain rfl := Option.some.inj h
    exact ⟨.inl rfl, by kernel_rfl, by kernel_rfl⟩
  · refine Wc.region [{}, {}, {}, { re := some (.bool false) }] [] [6] [] [] ⟨[(6, (.v (.bool false), []))], [], []⟩ _ (by kernel_rfl) (.cons (congrArg AV.bool h15) .nil) ?_
    refine Wc.ret ?_
    obtain rfl := Option.some.inj h
    exact ⟨.inl rfl, by kernel_rfl, by kernel_rfl⟩

def pspec_l03Name_L1 (k : Nat) (d21_ : ByteArray) : Nat → Int → Option (Out Bool Unit)
  | 0, _ => none
  | m + 1, b22_ =>
    if (decide (b22_ < (d21_.size : Int))) = true then
      if 0 ≤ b22_ ∧ (b22_).toNat < d21_.size then
        if (decide ((bt d21_ b22_) < 33)) = true then
          some (.ret false)
        else
          if 0 ≤ b22_ ∧ (b22_).toNat < d21_.size then
            if (decide ((bt d21_ b22_) > 126)) = true then
              some (.ret false)
            else
              if 0 ≤ b22_ ∧ (b22_).toNat < d21_.size then
                if ((bt d21_ b22_) == 39) = true then
                  some (.ret false)
                else
                  if 0 ≤ b22_ ∧ (b22_).toNat < d21_.size then
                    if ((bt d21_ b22_) == 34) = true then
                      some (.ret false)
                    else
                      pspec_l03Name_L1 k d21_ m (wr.i64 (b22_ + 1))
                  else none
              else none
          else none
      else none
    else
      some (.done ())
/-- spec.l03Name -/
def pspec_l03Name (k : Nat) (d21_ : ByteArray) : Option Bool :=
  (pspec_l03Name_L1 k d21_ k 0).bind fun out1 => match out1 with
  | .ret r => some r
  | .done () =>
    (pspec_l01In k (d21_.size : Int) 1 20).bind fun e23_ =>
    some e23_
theorem cspec_l03Name {k : Nat} {d21_ : ByteArray} {r : Bool} (h : pspec_l03Name k d21_ = some r) : FnO Try.prog 137 [.v (.str d21_) []] (.v (.bool r) []) [] := by
  refine FnO.of Try.func137 (rfl : Try.f137.body = some _) (Nat.le_of_ble_eq_true (by kernel_rfl)) (Nat.le_of_ble_eq_true (by kernel_rfl)) ?_
  intro w0 X0 Fin pv0 pb
  unfold pspec_l03Name at h
  refine Wc.seq ?_
  refine Wc.region [] [] [0] [] [] ⟨[(0, (.v (.str d21_), []))], [], []⟩ _ (by kernel_rfl) .nil ?_
  refine Wc.seq ?_
  refine Wc.seq ?_
  refine Wc.region [] [] [0, 3] [] [] ⟨[(0, (.v (.str d21_), [])), (3, (.v (.int .i64 0), []))], [], []⟩ _ (by kernel_rfl) .nil ?_
  obtain ⟨out1, h16, h⟩ := obind h
  refine Wc.lastJ (fun st => out1 = .done () ∧ st = ⟨[(0, (.v (.str d21_), []))], [], []⟩) ?_ ?_
  · refine Wc.block ?_
    refine Wc.loop (fun m st => ∃ (b22_ : Int), st = ⟨[(0, (.v (.str d21_), [])), (3, (.v (.int .i64 b22_), []))], [], []⟩ ∧ pspec_l03Name_L1 k d21_ m b22_ = some out1) ?_ k ⟨_, rfl, h16⟩
    rintro m st ⟨b22_, rfl, h16⟩
    cases m with
    | zero => exact (onone h16).elim
    | succ m =>
      refine Wc.seq ?_
      refine Wc.seq ?_
      refine Wc.region [] [] [0, 3, 7] [] [] ⟨[(0, (.v (.str d21_), [])), (3, (.v (.int .i64 b22_), [])), (7, (.v (.bool (decide (b22_ < (d21_.size : Int)))), []))], [], []⟩ _ (by kernel_rfl) .nil ?_
      rcases oif h16 with ⟨h17, h16⟩ | ⟨h17, h16⟩
      · refine Wc.condT h17 (by kernel_rfl) ?_
        refine Wc.fix (st' := ⟨[(0, (.v (.str d21_), [])), (3, (.v (.int .i64 b22_), []))], [], []⟩) [] [0, 3] [] [] (by kernel_rfl) ?_
        refine Wc.skip ?_
        refine Wc.seq ?_
        refine Wc.block ?_
        refine Wc.seq ?_
        obtain ⟨h18, h16⟩ := oguard h16
        rcases oif h16 with ⟨h19, h16⟩ | ⟨h19, h16⟩
        · refine Wc.region [{}, {}, {}, {}, { re := some (.bool true) }] [] [0, 3, 31] [] [] ⟨[(0, (.v (.str d21_), [])), (3, (.v (.int .i64 b22_), [])), (31, (.v (.bool true), []))], [], []⟩ _ (by kernel_rfl) (.cons h18 (.cons (congrArg AV.bool h19) .nil)) ?_
          refine Wc.condT rfl (by kernel_rfl) ?_
          refine Wc.seq ?_
          refine Wc.region [] [] [2] [] [] ⟨[(2, (.v (.bool false), []))], [], []⟩ _ (by kernel_rfl) .nil ?_
          refine Wc.ret ?_
          obtain rfl := Option.some.inj h16
          obtain rfl := Option.some.inj h
          exact ⟨.inl rfl, by kernel_rfl, by kernel_rfl⟩
        · obtain ⟨h20, h16⟩ := oguard h16
          rcases oif h16 with ⟨h21, h16⟩ | ⟨h21, h16⟩
          · refine Wc.region [{}, {}, {}, {}, { re := some (.bool false) }, {}, {}, {}, {}, {}, { re := some (.bool true) }] [] [0, 3, 31] [] [] ⟨[(0, (.v (.str d21_), [])), (3, (.v (.int .i64 b22_), [])), (31, (.v (.bool true), []))], [], []⟩ _ (by kernel_rfl) (.cons h18 (.cons (congrArg AV.bool h19) (.cons h20 (.cons (congrArg AV.bool h21) .nil)))) ?_
            refine Wc.condT rfl (by kernel_rfl) ?_
            refine Wc.seq ?_
            refine Wc.region [] [] [2] [] [] ⟨[(2, (.v (.bool false), []))], [], []⟩ _ (by kernel_rfl) .nil ?_
            refine Wc.ret ?_
            obtain rfl := Option.some.inj h16
            obtain rfl := Option.some.inj h
            exact ⟨.inl rfl, by kernel_rfl, by kernel_rfl⟩
          · obtain ⟨h22, h16⟩ := oguard h16
            rcases oif h16 with ⟨h23, h16⟩ | ⟨h23, h16⟩
            · refine Wc.region [{}, {}, {}, {}, { re := some (.bool false) }, {}, {}, {}, {}, {}, { re := some (.bool false) }, {}, {}, {}, {}, {}, { re := some (.bool true) }] [] [0, 3, 31] [] [] ⟨[(0, (.v (.str d21_), [])), (3, (.v (.int .i64 b22_), [])), (31, (.v (.bool true), []))], [], []⟩ _ (by kernel_rfl) (.cons h18 (.cons (congrArg AV.bool h19) (.cons h20 (.cons (congrArg AV.bool h21) (.cons h22 (.cons (congrArg AV.bool h23) .nil)))))) ?_
              refine Wc.condT rfl (by kernel_rfl) ?_
              refine Wc.seq ?_
              refine Wc.region [] [] [2] [] [] ⟨[(2, (.v (.bool false), []))], [], []⟩ _ (by kernel_rfl) .nil ?_
              refine Wc.ret ?_
              obtain rfl := Option.some.inj h16
              obtain rfl := Option.some.inj h
              exact ⟨.inl rfl, by kernel_rfl, by kernel_rfl⟩
            · obtain ⟨h24, h16⟩ := oguard h16
              refine Wc.region [{}, {}, {}, {}, { re := some (.bool false) }, {}, {}, {}, {}, {}, { re := some (.bool false) }, {}, {}, {}, {}, {}, { re := some (.bool false) }] [] [0, 3, 31] [] [] ⟨[(0, (.v (.str d21_), [])), (3, (.v (.int .i64 b22_), [])), (31, (.v (.bool ((bt d21_ b22_) == 34)), []))], [], []⟩ _ (by kernel_rfl) (.cons h18 (.cons (congrArg AV.bool h19) (.cons h20 (.cons (congrArg AV.bool h21) (.cons h22 (.cons (congrArg AV.bool h23) (.cons h24 .nil))))))) ?_
              rcases oif h16 with ⟨h25, h16⟩ | ⟨h25, h16⟩
              · refine Wc.condT h25 (by kernel_rfl) ?_
                refine Wc.seq ?_
                refine Wc.region [] [] [2] [] [] ⟨[(2, (.v (.bool false), []))], [], []⟩ _ (by kernel_rfl) .nil ?_
                refine Wc.ret ?_
                obtain rfl := Option.some.inj h16
                obtain rfl := Option.some.inj h
                exact ⟨.inl rfl, by kernel_rfl, by kernel_rfl⟩
              · refine Wc.condF h25 (by kernel_rfl) ?_
                refine Wc.fix (st' := ⟨[(0, (.v (.str d21_), [])), (3, (.v (.int .i64 b22_), []))], [], []⟩) [] [0, 3] [] [] (by kernel_rfl) ?_
                refine Wc.skip ?_
                refine Wc.region [] [] [0, 3] [] [] ⟨[(0, (.v (.str d21_), [])), (3, (.v (.int .i64 (wr.i64 (b22_ + 1))), []))], [], []⟩ _ (by kernel_rfl) .nil ?_
                exact ⟨_, Nat.lt_succ_self _, _, rfl, h16⟩
      · refine Wc.condF h17 (by kernel_rfl) ?_
        refine Wc.fix (st' := ⟨[(0, (.v (.str d21_), []))], [], []⟩) [] [0] [] [] (by kernel_rfl) ?_
        refine Wc.exit ?_
        obtain rfl := Option.some.inj h16
        exact ⟨rfl, rfl⟩
  · rintro st ⟨rfl, rfl⟩
    refine Wc.seq ?_
    obtain ⟨e23_, h26, h⟩ := obind h
    refine Wc.region [{}, {}, { r := some (.v (.bool e23_) []) }] [] [2] [] [] ⟨[(2, (.v (.bool e23_), []))], [], []⟩ _ (by kernel_rfl) (.cons (cspec_l01In h26) .nil) ?_
    refine Wc.ret ?_
    obtain rfl := Option.some.inj h
    exact ⟨.inl rfl, by kernel_rfl, by kernel_rfl⟩

/-- spec.l03One -/
def pspec_l03One (k : Nat) (c24_ : GTerm) : Option Bool :=
  if (c24_.gKind == 1) = true then
    (pspec_l01In k c24_.gNum 0 99999).bind fun e25_ =>
    if e25_ = true then
      if (sEq c24_.gName (bs [])) = true then
        some ((c24_.gKids.length : Int) == 0)
      else
        some false
    else
      some false
  else
    if (c24_.gKind == 2) = true then
      (pspec_l03Name k c24_.gName).bind fun e26_ =>
      if e26_ = true then
        if (c24_.gNum == 0) = true then
          some ((c24_.gKids.length : Int) == 0)
        else
          some false
      else
        some false
    else
      if (c24_.gKind == 3) = true then
        (pspec_l01In k c24_.gNum (-999999999) 999999999).bind fun e27_ =>
        if e27_ = true then
          if (sEq c24_.gName (bs [])) = true then
            some ((c24_.gKids.length : Int) == 0)
          else
            some false
        else
          some false
      else
        if (c24_.gKind == 4) = true then
          (pspec_l03Name k c24_.gName).bind fun e28_ =>
          if e28_ = true then
            if (c24_.gNum == 0) = true then
              (pspec_l01In k (c24_.gKids.length : Int) 1 5).bind fun e29_ =>
              some e29_
            else
              some false
          else
            some false
        else
          some false
theorem cspec_l03One {k : Nat} {c24_ : GTerm} {r : Bool} (h : pspec_l03One k c24_ = some r) : FnO Try.prog 130 [.v (.agg [.int .i64 c24_.gKind, .str c24_.gName, .int .i64 c24_.gNum, .sl (List.map GTerm.c c24_.gKids)]) []] (.v (.bool r) []) [] := by
  refine FnO.of Try.func130 (rfl : Try.f130.body = some _) (Nat.le_of_ble_eq_true (by kernel_rfl)) (Nat.le_of_ble_eq_true (by kernel_rfl)) ?_
  intro w0 X0 Fin pv0 pb
  unfold pspec_l03One at h
  refine Wc.seq ?_
  refine Wc.region [] [] [1] [1] [] ⟨[(1, (.ptr 1 0, []))], [(1, .cells [.int .i64 c24_.gKind, .str c24_.gName, .int .i64 c24_.gNum, .sl (List.map GTerm.c c24_.gKids)] [])], []⟩ _ (by kernel_rfl) .nil ?_
  refine Wc.seq ?_
  refine Wc.seq ?_
  refine Wc.region [] [] [1, 4] [1] [] ⟨[(1, (.ptr 1 0, [])), (4, (.v (.int .i64 c24_.gKind), []))], [(1, .cells [.int .i64 c24_.gKind, .str c24_.gName, .int .i64 c24_.gNum, .sl (List.map GTerm.c c24_.gKids)] [])], []⟩ _ (by kernel_rfl) .nil ?_
  refine Wc.block ?_
  refine Wc.seq ?_
  refine Wc.region [] [] [1, 4, 5] [1] [] ⟨[(1, (.ptr 1 0, [])), (4, (.v (.int .i64 c24_.gKind), [])), (5, (.v (.bool (c24_.gKind == 1)), []))], [(1, .cells [.int .i64 c24_.gKind, .str c24_.gName, .int .i64 c24_.gNum, .sl (List.map GTerm.c c24_.gKids)] [])], []⟩ _ (by kernel_rfl) .nil ?_
  rcases oif h with ⟨h27, h⟩ | ⟨h27, h⟩
  · refine Wc.condT h27 (by kernel_rfl) ?_
    refine Wc.seq ?_
    obtain ⟨e25_, h28, h⟩ := obind h
    rcases oif h with ⟨h29, h⟩ | ⟨h29, h⟩
    · rcases oif h with ⟨h30, h⟩ | ⟨h30, h⟩
      · refine Wc.region [{}, {}, { r := some (.v (.bool e25_) []) }, { re := some (.bool true) }, {}, {}, {}, {}, { re := some (.bool true) }, {}, {}, { v := some (.int .i64 (c24_.gKids.length : Int)) }] [] [2] [] [] ⟨[(2, (.v (.bool ((c24_.gKids.length : Int) == 0)), []))], [], []⟩ _ (by kernel_rfl) (.cons (cspec_l01In h28) (.cons (congrArg AV.bool h29) (.cons (congrArg AV.bool h30) (.cons (len_obl GTerm.c c24_.gKids) .nil)))) ?_
        refine Wc.ret ?_
        obtain rfl := Option.some.inj h
        exact ⟨.inl rfl, by kernel_rfl, by kernel_rfl⟩
      · refine Wc.region [{}, {}, { r := some (.v (.bool e25_) []) }, { re := some (.bool true) }, {}, {}, {}, {}, { re := some (.bool false) }] [] [2] [] [] ⟨[(2, (.v (.bool false), []))], [], []⟩ _ (by kernel_rfl) (.cons (cspec_l01In h28) (.cons (congrArg AV.bool h29) (.cons (congrArg AV.bool h30) .nil))) ?_
        refine Wc.ret ?_
        obtain rfl := Option.some.inj h
        exact ⟨.inl rfl, by kernel_rfl, by kernel_rfl⟩
    · refine Wc.region [{}, {}, { r := some (.v (.bool e25_) []) }, { re := some (.bool false) }] [] [2] [] [] ⟨[(2, (.v (.bool false), []))], [], []⟩ _ (by kernel_rfl) (.cons (cspec_l01In h28) (.cons (congrArg AV.bool h29) .nil)) ?_
      refine Wc.ret ?_
      obtain rfl := Option.some.inj h
      exact ⟨.inl rfl, by kernel_rfl, by kernel_rfl⟩
  · refine Wc.condF h27 (by kernel_rfl) ?_
    refine Wc.seq ?_
    refine Wc.region [] [] [1, 4, 21] [1] [] ⟨[(1, (.ptr 1 0, [])), (4, (.v (.int .i64 c24_.gKind), [])), (21, (.v (.bool (c24_.gKind == 2)), []))], [(1, .cells [.int .i64 c24_.gKind, .str c24_.gName, .int .i64 c24_.gNum, .sl (List.map GTerm.c c24_.gKids)] [])], []⟩ _ (by kernel_rfl) .nil ?_
    rcases oif h with ⟨h31, h⟩ | ⟨h31, h⟩
    · refine Wc.condT h31 (by kernel_rfl) ?_
      refine Wc.seq ?_
      obtain ⟨e26_, h32, h⟩ := obind h
      rcases oif h with ⟨h33, h⟩ | ⟨h33, h⟩
      · rcases oif h with ⟨h34, h⟩ | ⟨h34, h⟩
        · refine Wc.region [{}, {}, { r := some (.v (.bool e26_) []) }, { re := some (.bool true) }, {}, {}, {}, {}, { re := some (.bool true) }, {}, {}, { v := some (.int .i64 (c24_.gKids.length : Int)) }] [] [2] [] [] ⟨[(2, (.v (.bool ((c24_.gKids.length : Int) == 0)), []))], [], []⟩ _ (by kernel_rfl) (.cons (cspec_l03Name h32) (.cons (congrArg AV.bool h33) (.cons (congrArg AV.bool h34) (.cons (len_obl GTerm.c c24_.gKids) .nil)))) ?_
          refine Wc.ret ?_
          obtain rfl := Option.some.inj h
          exact ⟨.inl rfl, by kernel_rfl, by kernel_rfl⟩
        · refine Wc.region [{}, {}, { r := some (.v (.bool e26_) []) }, { re := some (.bool true) }, {}, {}, {}, {}, { re := some (.bool false) }] [] [2] [] [] ⟨[(2, (.v (.bool false), []))], [], []⟩ _ (by kernel_rfl) (.cons (cspec_l03Name h32) (.cons (congrArg AV.bool h33) (.cons (congrArg AV.bool h34) .nil))) ?_
          refine Wc.ret ?_
          obtain rfl := Option.some.inj h
          exact ⟨.inl rfl, by kernel_rfl, by kernel_rfl⟩
      · refine Wc.region [{}, {}, { r := some (.v (.bool e26_) []) }, { re := some (.bool false) }] [] [2] [] [] ⟨[(2, (.v (.bool false), []))], [], []⟩ _ (by kernel_rfl) (.cons (cspec_l03Name h32) (.cons (congrArg AV.bool h33) .nil)) ?_
        refine Wc.ret ?_
        obtain rfl := Option.some.inj h
        exact ⟨.inl rfl, by kernel_rfl, by kernel_rfl⟩
    · refine Wc.condF h31 (by kernel_rfl) ?_
      refine Wc.seq ?_
      refine Wc.region [] [] [1, 4, 37] [1] [] ⟨[(1, (.ptr 1 0, [])), (4, (.v (.int .i64 c24_.gKind), [])), (37, (.v (.bool (c24_.gKind == 3)), []))], [(1, .cells [.int .i64 c24_.gKind, .str c24_.gName, .int .i64 c24_.gNum, .sl (List.map GTerm.c c24_.gKids)] [])], []⟩ _ (by kernel_rfl) .nil ?_
      rcases oif h with ⟨h35, h⟩ | ⟨h35, h⟩
      · refine Wc.condT h35 (by kernel_rfl) ?_
        refine Wc.seq ?_
        obtain ⟨e27_, h36, h⟩ := obind h
        rcases oif h with ⟨h37, h⟩ | ⟨h37, h⟩
        · rcases oif h with ⟨h38, h⟩ | ⟨h38, h⟩
          · refine Wc.region [{}, {}, { r := some (.v (.bool e27_) []) }, { re := some (.bool true) }, {}, {}, {}, {}, { re := some (.bool true) }, {}, {}, { v := some (.int .i64 (c24_.gKids.length : Int)) }] [] [2] [] [] ⟨[(2, (.v (.bool ((c24_.gKids.length : Int) == 0)), []))], [], []⟩ _ (by kernel_rfl) (.cons (cspec_l01In h36) (.cons (congrArg AV.bool h37) (.cons (congrArg AV.bool h38) (.cons (len_obl GTerm.c c24_.gKids) .nil)))) ?_
            refine Wc.ret ?_
            obtain rfl := Option.some.inj h
            exact ⟨.inl rfl, by kernel_rfl, by kernel_rfl⟩
          · refine Wc.region [{}, {}, { r := some (.v (.bool e27_) []) }, { re := some (.bool true) }, {}, {}, {}, {}, { re := some (.bool false) }] [] [2] [] [] ⟨[(2, (.v (.bool false), []))], [], []⟩ _ (by kernel_rfl) (.cons (cspec_l01In h36) (.cons (congrArg AV.bool h37) (.cons (congrArg AV.bool h38) .nil))) ?_
            refine Wc.ret ?_
            obtain rfl := Option.some.inj h
            exact ⟨.inl rfl, by kernel_rfl, by kernel_rfl⟩
        · refine Wc.region [{}, {}, { r := some (.v (.bool e27_) []) }, { re := some (.bool false) }] [] [2] [] [] ⟨[(2, (.v (.bool false), []))], [], []⟩ _ (by kernel_rfl) (.cons (cspec_l01In h36) (.cons (congrArg AV.bool h37) .nil)) ?_
          refine Wc.ret ?_
          obtain rfl := Option.some.inj h
          exact ⟨.inl rfl, by kernel_rfl, by kernel_rfl⟩
      · refine Wc.condF h35 (by kernel_rfl) ?_
        refine Wc.seq ?_
        refine Wc.region [] [] [1, 53] [1] [] ⟨[(1, (.ptr 1 0, [])), (53, (.v (.bool (c24_.gKind == 4)), []))], [(1, .cells [.int .i64 c24_.gKind, .str c24_.gName, .int .i64 c24_.gNum, .sl (List.map GTerm.c c24_.gKids)] [])], []⟩ _ (by kernel_rfl) .nil ?_
        rcases oif h with ⟨h39, h⟩ | ⟨h39, h⟩
        · refine Wc.condT h39 (by kernel_rfl) ?_
          refine Wc.seq ?_
          obtain ⟨e28_, h40, h⟩ := obind h
          rcases oif h with ⟨h41, h⟩ | ⟨h41, h⟩
          · rcases oif h with ⟨h42, h⟩ | ⟨h42, h⟩
            · obtain ⟨e29_, h43, h⟩ := obind h
              refine Wc.region [{}, {}, { r := some (.v (.bool e28_) []) }, { re := some (.bool true) }, {}, {}, {}, {}, { re := some (.bool true) }, {}, {}, { v := some (.int .i64 (c24_.gKids.length : Int)) }, { r := some (.v (.bool e29_) []) }] [] [2] [] [] ⟨[(2, (.v (.bool e29_), []))], [], []⟩ _ (by kernel_rfl) (.cons (cspec_l03Name h40) (.cons (congrArg AV.bool h41) (.cons (congrArg AV.bool h42) (.cons (len_obl GTerm.c c24_.gKids) (.cons (cspec_l01In h43) .nil))))) ?_
              refine Wc.ret ?_
              obtain rfl := Option.some.inj h
              exact ⟨.inl rfl, by kernel_rfl, by kernel_rfl⟩
            · refine Wc.region [{}, {}, { r := some (.v (.bool e28_) []) }, { re := some (.bool true) }, {}, {}, {}, {}, { re := some (.bool false) }] [] [2] [] [] ⟨[(2, (.v (.bool false), []))], [], []⟩ _ (by kernel_rfl) (.cons (cspec_l03Name h40) (.cons (congrArg AV.bool h41) (.cons (congrArg AV.bool h42) .nil))) ?_
              refine Wc.ret ?_
              obtain rfl := Option.some.inj h
              exact ⟨.inl rfl, by kernel_rfl, by kernel_rfl⟩
          · refine Wc.region [{}, {}, { r := some (.v (.bool e28_) []) }, { re := some (.bool false) }] [] [2] [] [] ⟨[(2, (.v (.bool false), []))], [], []⟩ _ (by kernel_rfl) (.cons (cspec_l03Name h40) (.cons (congrArg AV.bool h41) .nil)) ?_
            refine Wc.ret ?_
            obtain rfl := Option.some.inj h
            exact ⟨.inl rfl, by kernel_rfl, by kernel_rfl⟩
        · refine Wc.condF h39 (by kernel_rfl) ?_
          refine Wc.fix (st' := ⟨[], [], []⟩) [] [] [] [] (by kernel_rfl) ?_
          refine Wc.skip ?_
          refine Wc.seq ?_
          refine Wc.region [] [] [2] [] [] ⟨[(2, (.v (.bool false), []))], [], []⟩ _ (by kernel_rfl) .nil ?_
          refine Wc.ret ?_
          obtain rfl := Option.some.inj h
          exact ⟨.inl rfl, by kernel_rfl, by kernel_rfl⟩

def pspec_l03Right_L1 (k : Nat) (rspec_l03Right : GTerm → Int → Option Bool) (c30_ : GTerm) (b31_ : Int) : Nat → Int → Option (Out Bool Unit)
  | 0, _ => none
  | m + 1, b33_ =>
    if (decide (b33_ < (c30_.gKids.length : Int))) = true then
      (at' c30_.gKids b33_).bind fun c34_ =>
      (rspec_l03Right c34_ (wr.i64 (b31_ + 1))).bind fun e35_ =>
      if (!e35_) = true then
        some (.ret false)
      else
        pspec_l03Right_L1 k rspec_l03Right c30_ b31_ m (wr.i64 (b33_ + 1))
    else
      some (.done ())
mutual
/-- spec.l03Right -/
def pspec_l03Right : Nat → GTerm → Int → Option Bool
  | 0, _, _ => none
  | k + 1, c30_, b31_ =>
    if (decide (b31_ > 40)) = true then
      some false
    else
      (pspec_l03One k c30_).bind fun e32_ =>
      if (!e32_) = true then
        some false
      else
        (pspec_l03Right_L1 k (pspec_l03Right k) c30_ b31_ k 0).bind fun out1 => match out1 with
        | .ret r => some r
        | .done () =>
          some true
end
theorem all_pspec_l03Right : ∀ k : Nat, (∀ {c30_ : GTerm} {b31_ : Int} {r : Bool}, pspec_l03Right k c30_ b31_ = some r → FnO Try.prog 105 [.v (.agg [.int .i64 c30_.gKind, .str c30_.gName, .int .i64 c30_.gNum, .sl (List.map GTerm.c c30_.gKids)]) [], .v (.int .i64 b31_) []] (.v (.bool r) []) []) := by
  intro k
  induction k with
  | zero =>
    · intro c30_ b31_ r h
      exact (onone (by rw [pspec_l03Right] at h; exact h)).elim
  | succ k ih =>
    have ih_pspec_l03Right := @ih
    · intro c30_ b31_ r h
      rw [pspec_l03Right] at h
      refine FnO.of Try.func105 (rfl : Try.f105.body = some _) (Nat.le_of_ble_eq_true (by kernel_rfl)) (Nat.le_of_ble_eq_true (by kernel_rfl)) ?_
      intro w0 X0 Fin pv0 pb
      refine Wc.seq ?_
      refine Wc.region [] [] [1, 2] [2] [] ⟨[(1, (.v (.int .i64 b31_), [])), (2, (.ptr 2 0, []))], [(2, .cells [.int .i64 c30_.gKind, .str c30_.gName, .int .i64 c30_.gNum, .sl (List.map GTerm.c c30_.gKids)] [])], []⟩ _ (by kernel_rfl) .nil ?_
      refine Wc.seq ?_
      refine Wc.seq ?_
      rcases oif h with ⟨h44, h⟩ | ⟨h44, h⟩
      · refine Wc.region [{}, {}, { re := some (.bool true) }] [] [1, 2, 12] [2] [] ⟨[(1, (.v (.int .i64 b31_), [])), (2, (.ptr 2 0, [])), (12, (.v (.bool true), []))], [(2, .cells [.int .i64 c30_.gKind, .str c30_.gName, .int .i64 c30_.gNum, .sl (List.map GTerm.c c30_.gKids)] [])], []⟩ _ (by kernel_rfl) (.cons (congrArg AV.bool h44) .nil) ?_
        refine Wc.condT rfl (by kernel_rfl) ?_
        refine Wc.seq ?_
        refine Wc.region [] [] [4] [] [] ⟨[(4, (.v (.bool false), []))], [], []⟩ _ (by kernel_rfl) .nil ?_
        refine Wc.ret ?_
        obtain rfl := Option.some.inj h
        exact ⟨.inl rfl, by kernel_rfl, by kernel_rfl⟩
      · obtain ⟨e32_, h45, h⟩ := obind h
        refine Wc.region [{}, {}, { re := some (.bool false) }, {}, { r := some (.v (.bool e32_) []) }] [] [1, 2, 12] [2] [] ⟨[(1, (.v (.int .i64 b31_), [])), (2, (.ptr 2 0, [])), (12, (.v (.bool (!e32_)), []))], [(2, .cells [.int .i64 c30_.gKind, .str c30_.gName, .int .i64 c30_.gNum, .sl (List.map GTerm.c c30_.gKids)] [])], []⟩ _ (by kernel_rfl) (.cons (congrArg AV.bool h44) (.cons (cspec_l03One h45) .nil)) ?_
        rcases oif h with ⟨h46, h⟩ | ⟨h46, h⟩
        · refine Wc.condT h46 (by kernel_rfl) ?_
          refine Wc.seq ?_
          refine Wc.region [] [] [4] [] [] ⟨[(4, (.v (.bool false), []))], [], []⟩ _ (by kernel_rfl) .nil ?_
          refine Wc.ret ?_
          obtain rfl := Option.some.inj h
          exact ⟨.inl rfl, by kernel_rfl, by kernel_rfl⟩
        · refine Wc.condF h46 (by kernel_rfl) ?_
          refine Wc.fix (st' := ⟨[(1, (.v (.int .i64 b31_), [])), (2, (.ptr 2 0, []))], [(2, .cells [.int .i64 c30_.gKind, .str c30_.gName, .int .i64 c30_.gNum, .sl (List.map GTerm.c c30_.gKids)] [])], []⟩) [] [1, 2] [2] [] (by kernel_rfl) ?_
          refine Wc.skip ?_
          refine Wc.seq ?_
          refine Wc.seq ?_
          refine Wc.region [] [] [1, 2, 5] [2] [] ⟨[(1, (.v (.int .i64 b31_), [])), (2, (.ptr 2 0, [])), (5, (.v (.int .i64 0), []))], [(2, .cells [.int .i64 c30_.gKind, .str c30_.gName, .int .i64 c30_.gNum, .sl (List.map GTerm.c c30_.gKids)] [])], []⟩ _ (by kernel_rfl) .nil ?_
          obtain ⟨out1, h47, h⟩ := obind h
          refine Wc.lastJ (fun st => out1 = .done () ∧ st = ⟨[], [], []⟩) ?_ ?_
          · refine Wc.block ?_
            refine Wc.loop (fun m st => ∃ (b33_ : Int), st = ⟨[(1, (.v (.int .i64 b31_), [])), (2, (.ptr 2 0, [])), (5, (.v (.int .i64 b33_), []))], [(2, .cells [.int .i64 c30_.gKind, .str c30_.gName, .int .i64 c30_.gNum, .sl (List.map GTerm.c c30_.gKids)] [])], []⟩ ∧ pspec_l03Right_L1 k (pspec_l03Right k) c30_ b31_ m b33_ = some out1) ?_ k ⟨_, rfl, h47⟩
            rintro m st ⟨b33_, rfl, h47⟩
            cases m with
            | zero => exact (onone h47).elim
            | succ m =>
              refine Wc.seq ?_
              refine Wc.seq ?_
              refine Wc.region [{}, {}, {}, { v := some (.int .i64 (c30_.gKids.length : Int)) }] [] [1, 2, 5, 17] [2] [] ⟨[(1, (.v (.int .i64 b31_), [])), (2, (.ptr 2 0, [])), (5, (.v (.int .i64 b33_), [])), (17, (.v (.bool (decide (b33_ < (c30_.gKids.length : Int)))), []))], [(2, .cells [.int .i64 c30_.gKind, .str c30_.gName, .int .i64 c30_.gNum, .sl (List.map GTerm.c c30_.gKids)] [])], []⟩ _ (by kernel_rfl) (.cons (len_obl GTerm.c c30_.gKids) .nil) ?_
              rcases oif h47 with ⟨h48, h47⟩ | ⟨h48, h47⟩
              · refine Wc.condT h48 (by kernel_rfl) ?_
                refine Wc.fix (st' := ⟨[(1, (.v (.int .i64 b31_), [])), (2, (.ptr 2 0, [])), (5, (.v (.int .i64 b33_), []))], [(2, .cells [.int .i64 c30_.gKind, .str c30_.gName, .int .i64 c30_.gNum, .sl (List.map GTerm.c c30_.gKids)] [])], []⟩) [] [1, 2, 5] [2] [] (by kernel_rfl) ?_
                refine Wc.skip ?_
                refine Wc.seq ?_
                refine Wc.block ?_
                refine Wc.seq ?_
                obtain ⟨c34_, h49, h47⟩ := obind h47
                obtain ⟨e35_, h50, h47⟩ := obind h47
                refine Wc.region [{}, {}, {}, { v := some (.vptr [.int .i64 c34_.gKind, .str c34_.gName, .int .i64 c34_.gNum, .sl (List.map GTerm.c c34_.gKids)]) }, {}, {}, {}, { r := some (.v (.bool e35_) []) }] [] [1, 2, 5, 28] [2] [] ⟨[(1, (.v (.int .i64 b31_), [])), (2, (.ptr 2 0, [])), (5, (.v (.int .i64 b33_), [])), (28, (.v (.bool (!e35_)), []))], [(2, .cells [.int .i64 c30_.gKind, .str c30_.gName, .int .i64 c30_.gNum, .sl (List.map GTerm.c c30_.gKids)] [])], []⟩ _ (by kernel_rfl) (.cons (at_obl (c := GTerm.c) (GTerm.c_eq c34_) GTerm.c_len h49) (.cons (len_ok 4 [.int .i64 c34_.gKind, .str c34_.gName, .int .i64 c34_.gNum, .sl (List.map GTerm.c c34_.gKids)]) (.cons (ih_pspec_l03Right h50) .nil))) ?_
                rcases oif h47 with ⟨h51, h47⟩ | ⟨h51, h47⟩
                · refine Wc.condT h51 (by kernel_rfl) ?_
                  refine Wc.seq ?_
                  refine Wc.region [] [] [4] [] [] ⟨[(4, (.v (.bool false), []))], [], []⟩ _ (by kernel_rfl) .nil ?_
                  refine Wc.ret ?_
                  obtain rfl := Option.some.inj h47
                  obtain rfl := Option.some.inj h
                  exact ⟨.inl rfl, by kernel_rfl, by kernel_rfl⟩
                · refine Wc.condF h51 (by kernel_rfl) ?_
                  refine Wc.fix (st' := ⟨[(1, (.v (.int .i64 b31_), [])), (2, (.ptr 2 0, [])), (5, (.v (.int .i64 b33_), []))], [(2, .cells [.int .i64 c30_.gKind, .str c30_.gName, .int .i64 c30_.gNum, .sl (List.map GTerm.c c30_.gKids)] [])], []⟩) [] [1, 2, 5] [2] [] (by kernel_rfl) ?_
                  refine Wc.skip ?_
                  refine Wc.region [] [] [1, 2, 5] [2] [] ⟨[(1, (.v (.int .i64 b31_), [])), (2, (.ptr 2 0, [])), (5, (.v (.int .i64 (wr.i64 (b33_ + 1))), []))], [(2, .cells [.int .i64 c30_.gKind, .str c30_.gName, .int .i64 c30_.gNum, .sl (List.map GTerm.c c30_.gKids)] [])], []⟩ _ (by kernel_rfl) .nil ?_
                  exact ⟨_, Nat.lt_succ_self _, _, rfl, h47⟩
              · refine Wc.condF h48 (by kernel_rfl) ?_
                refine Wc.fix (st' := ⟨[], [], []⟩) [] [] [] [] (by kernel_rfl) ?_
                refine Wc.exit ?_
                obtain rfl := Option.some.inj h47
                exact ⟨rfl, rfl⟩
          · rintro st ⟨rfl, rfl⟩
            refine Wc.seq ?_
            refine Wc.region [] [] [4] [] [] ⟨[(4, (.v (.bool true), []))], [], []⟩ _ (by kernel_rfl) .nil ?_
            refine Wc.ret ?_
            obtain rfl := Option.some.inj h
            exact ⟨.inl rfl, by kernel_rfl, by kernel_rfl⟩
theorem cspec_l03Right {k : Nat} {c30_ : GTerm} {b31_ : Int} {r : Bool} (h : pspec_l03Right k c30_ b31_ = some r) : FnO Try.prog 105 [.v (.agg [.int .i64 c30_.gKind, .str c30_.gName, .int .i64 c30_.gNum, .sl (List.map GTerm.c c30_.gKids)]) [], .v (.int .i64 b31_) []] (.v (.bool r) []) [] := (all_pspec_l03Right k) h

/-- spec.TermOk -/
def pspec_TermOk (k : Nat) (c36_ : GTerm) : Option Bool :=
  (pspec_l03Count k c36_ 400).bind fun b37_ =>
  if (decide (b37_ ≥ 0)) = true then
    (pspec_l03Right k c36_ 1).bind fun e38_ =>
    some e38_
  else
    some false
theorem cspec_TermOk {k : Nat} {c36_ : GTerm} {r : Bool} (h : pspec_TermOk k c36_ = some r) : FnO Try.prog 65 [.v (.agg [.int .i64 c36_.gKind, .str c36_.gName, .int .i64 c36_.gNum, .sl (List.map GTerm.c c36_.gKids)]) []] (.v (.bool r) []) [] := by
  refine FnO.of Try.func65 (rfl : Try.f65.body = some _) (Nat.le_of_ble_eq_true (by kernel_rfl)) (Nat.le_of_ble_eq_true (by kernel_rfl)) ?_
  intro w0 X0 Fin pv0 pb
  unfold pspec_TermOk at h
  refine Wc.seq ?_
  refine Wc.region [] [] [1] [1] [] ⟨[(1, (.ptr 1 0, []))], [(1, .cells [.int .i64 c36_.gKind, .str c36_.gName, .int .i64 c36_.gNum, .sl (List.map GTerm.c c36_.gKids)] [])], []⟩ _ (by kernel_rfl) .nil ?_
  refine Wc.seq ?_
  obtain ⟨b37_, h52, h⟩ := obind h
  rcases oif h with ⟨h53, h⟩ | ⟨h53, h⟩
  · obtain ⟨e38_, h54, h⟩ := obind h
    refine Wc.region [{}, { r := some (.v (.int .i64 b37_) []) }, {}, { re := some (.bool true) }, {}, { r := some (.v (.bool e38_) []) }] [] [2] [] [] ⟨[(2, (.v (.bool e38_), []))], [], []⟩ _ (by kernel_rfl) (.cons (cspec_l03Count h52) (.cons (congrArg AV.bool h53) (.cons (cspec_l03Right h54) .nil))) ?_
    refine Wc.ret ?_
    obtain rfl := Option.some.inj h
    exact ⟨.inl rfl, by kernel_rfl, by kernel_rfl⟩
  · refine Wc.region [{}, { r := some (.v (.int .i64 b37_) []) }, {}, { re := some (.bool false) }] [] [2] [] [] ⟨[(2, (.v (.bool false), []))], [], []⟩ _ (by kernel_rfl) (.cons (cspec_l03Count h52) (.cons (congrArg AV.bool h53) .nil)) ?_
    refine Wc.ret ?_
    obtain rfl := Option.some.inj h
    exact ⟨.inl rfl, by kernel_rfl, by kernel_rfl⟩

def pspec_l34Terms_L1 (k : Nat) (rspec_l34Term : GTerm → Option GTerm) (rspec_l34Terms : (List GTerm) → Option (List GTerm)) (a57_ : List GTerm) : Nat → (List GTerm) → Int → Option (Out (List GTerm) (List GTerm))
  | 0, _, _ => none
  | m + 1, a58_, b59_ =>
    if (decide (b59_ < (a57_.length : Int))) = true then
      (at' a57_ b59_).bind fun c61_ =>
      (rspec_l34Term c61_).bind fun c62_ =>
      if a58_.length + [c62_].length ≤ 1073741824 then
        pspec_l34Terms_L1 k rspec_l34Term rspec_l34Terms a57_ m (a58_ ++ [c62_]) (wr.i64 (b59_ + 1))
      else none
    else
      some (.done a58_)
mutual
/-- spec.l34Term -/
def pspec_l34Term : Nat → GTerm → Option GTerm
  | 0, _ => none
  | k + 1, c55_ =>
    (pspec_l34Terms k c55_.gKids).bind fun f56_ =>
    some (GTerm.mk c55_.gKind c55_.gName c55_.gNum f56_)
/-- spec.l34Terms -/
def pspec_l34Terms : Nat → (List GTerm) → Option (List GTerm)
  | 0, _ => none
  | k + 1, a57_ =>
    (pspec_l34Terms_L1 k (pspec_l34Term k) (pspec_l34Terms k) a57_ k [] 0).bind fun out1 => match out1 with
    | .ret r => some r
    | .done a60_ =>
      some a60_
end
theorem all_pspec_l34Term : ∀ k : Nat, (∀ {c55_ : GTerm} {r : GTerm}, pspec_l34Term k c55_ = some r → FnO Try.prog 54 [.v (.agg [.int .i64 c55_.gKind, .str c55_.gName, .int .i64 c55_.gNum, .sl (List.map GTerm.c c55_.gKids)]) []] (.v (.agg [.int .i64 r.gKind, .str r.gName, .int .i64 r.gNum, .sl (List.map GTerm.c r.gKids)]) [(3, .app 37)]) []) ∧
    (∀ {a57_ : List GTerm} {r : (List GTerm)}, pspec_l34Terms k a57_ = some r → FnO Try.prog 93 [.v (.sl (List.map GTerm.c a57_)) []] (.v (.sl (List.map GTerm.c r)) [(0, .app 37)]) []) := by
  intro k
  induction k with
  | zero =>
    refine ⟨?_, ?_⟩
    · intro c55_ r h
      exact (onone (by rw [pspec_l34Term] at h; exact h)).elim
    · intro a57_ r h
      exact (onone (by rw [pspec_l34Terms] at h; exact h)).elim
  | succ k ih =>
    obtain ⟨ih_pspec_l34Term, ih_pspec_l34Terms⟩ := ih
    refine ⟨?_, ?_⟩
    · intro c55_ r h
      rw [pspec_l34Term] at h
      refine FnO.of Try.func54 (rfl : Try.f54.body = some _) (Nat.le_of_ble_eq_true (by kernel_rfl)) (Nat.le_of_ble_eq_true (by kernel_rfl)) ?_
      intro w0 X0 Fin pv0 pb
      refine Wc.seq ?_
      refine Wc.region [] [] [1, 2] [1, 2] [] ⟨[(1, (.ptr 1 0, [])), (2, (.ptr 2 0, []))], [(1, .cells [.int .i64 c55_.gKind, .str c55_.gName, .int .i64 c55_.gNum, .sl (List.map GTerm.c c55_.gKids)] []), (2, .cells [.int .i64 0, .str (bs []), .int .i64 0, .sl (List.map GTerm.c [])] [(3, .app 37)])], []⟩ _ (by kernel_rfl) .nil ?_
      refine Wc.seq ?_
      obtain ⟨f56_, h67, h⟩ := obind h
      refine Wc.region [{}, {}, { r := some (.v (.sl (List.map GTerm.c f56_)) [(0, .app 37)]) }, {}, { tk := [5] }] [] [1, 2] [1, 2] [] ⟨[(1, (.ptr 1 0, [])), (2, (.ptr 2 0, []))], [(1, .cells [.int .i64 c55_.gKind, .str c55_.gName, .int .i64 c55_.gNum, .sl (List.map GTerm.c f56_)] [(3, .app 37)]), (2, .cells [.int .i64 0, .str (bs []), .int .i64 0, .sl (List.map GTerm.c [])] [(3, .app 37)])], []⟩ _ (by kernel_rfl) (.cons (ih_pspec_l34Terms h67) .nil) ?_
      refine Wc.seq ?_
      refine Wc.region [{ md := 1 }, { tk := [7] }] [] [2] [2] [] ⟨[(2, (.ptr 2 0, []))], [(2, .cells [.int .i64 c55_.gKind, .str c55_.gName, .int .i64 c55_.gNum, .sl (List.map GTerm.c f56_)] [(3, .app 37)])], []⟩ _ (by kernel_rfl) .nil ?_
      refine Wc.ret ?_
      obtain rfl := Option.some.inj h
      exact ⟨.inl rfl, by kernel_rfl, by kernel_rfl⟩
    · intro a57_ r h
      rw [pspec_l34Terms] at h
      refine FnO.of Try.func93 (rfl : Try.f93.body = some _) (Nat.le_of_ble_eq_true (by kernel_rfl)) (Nat.le_of_ble_eq_true (by kernel_rfl)) ?_
      intro w0 X0 Fin pv0 pb
      refine Wc.seq ?_
      refine Wc.region [] [] [0] [] [] ⟨[(0, (.v (.sl (List.map GTerm.c a57_)), []))], [], []⟩ _ (by kernel_rfl) .nil ?_
      refine Wc.seq ?_
      refine Wc.region [{ c := some (List.map GTerm.c []) }, { tk := [5] }] [] [0, 3] [] [] ⟨[(0, (.v (.sl (List.map GTerm.c a57_)), [])), (3, (.v (.sl (List.map GTerm.c [])), [(0, .app 37)]))], [], []⟩ _ (by kernel_rfl) (.cons (cl_nil GTerm.c) .nil) ?_
      refine Wc.seq ?_
      refine Wc.seq ?_
      refine Wc.region [] [] [0, 3, 4] [] [] ⟨[(0, (.v (.sl (List.map GTerm.c a57_)), [])), (3, (.v (.sl (List.map GTerm.c [])), [(0, .app 37)])), (4, (.v (.int .i64 0), []))], [], []⟩ _ (by kernel_rfl) .nil ?_
      obtain ⟨out1, h68, h⟩ := obind h
      refine Wc.lastJ (fun st => ∃ (a60_ : List GTerm), out1 = .done a60_ ∧ st = ⟨[(3, (.v (.sl (List.map GTerm.c a60_)), [(0, .app 37)]))], [], []⟩) ?_ ?_
      · refine Wc.block ?_
        refine Wc.loop (fun m st => ∃ (a58_ : List GTerm) (b59_ : Int), st = ⟨[(0, (.v (.sl (List.map GTerm.c a57_)), [])), (3, (.v (.sl (List.map GTerm.c a58_)), [(0, .app 37)])), (4, (.v (.int .i64 b59_), []))], [], []⟩ ∧ pspec_l34Terms_L1 k (pspec_l34Term k) (pspec_l34Terms k) a57_ m a58_ b59_ = some out1) ?_ k ⟨_, _, rfl, h68⟩
        rintro m st ⟨a58_, b59_, rfl, h68⟩
        cases m with
        | zero => exact (onone h68).elim
        | succ m =>
          refine Wc.seq ?_
          refine Wc.seq ?_
          refine Wc.region [{}, {}, { v := some (.int .i64 (a57_.length : Int)) }] [] [0, 3, 4, 9] [] [] ⟨[(0, (.v (.sl (List.map GTerm.c a57_)), [])), (3, (.v (.sl (List.map GTerm.c a58_)), [(0, .app 37)])), (4, (.v (.int .i64 b59_), [])), (9, (.v (.bool (decide (b59_ < (a57_.length : Int)))), []))], [], []⟩ _ (by kernel_rfl) (.cons (len_obl GTerm.c a57_) .nil) ?_
          rcases oif h68 with ⟨h69, h68⟩ | ⟨h69, h68⟩
          · refine Wc.condT h69 (by kernel_rfl) ?_
            refine Wc.fix (st' := ⟨[(0, (.v (.sl (List.map GTerm.c a57_)), [])), (3, (.v (.sl (List.map GTerm.c a58_)), [(0, .app 37)])), (4, (.v (.int .i64 b59_), []))], [], []⟩) [] [0, 3, 4] [] [] (by kernel_rfl) ?_
            refine Wc.skip ?_
            refine Wc.seq ?_
            refine Wc.block ?_
            obtain ⟨c61_, h70, h68⟩ := obind h68
            obtain ⟨c62_, h71, h68⟩ := obind h68
            obtain ⟨h72, h68⟩ := oguard h68
            refine Wc.region [{ tk := [3] }, {}, {}, { v := some (.vptr [.int .i64 c61_.gKind, .str c61_.gName, .int .i64 c61_.gNum, .sl (List.map GTerm.c c61_.gKids)]) }, {}, { r := some (.v (.agg [.int .i64 c62_.gKind, .str c62_.gName, .int .i64 c62_.gNum, .sl (List.map GTerm.c c62_.gKids)]) [(3, .app 37)]) }, { c := some (List.map GTerm.c [c62_]) }, { c := some (List.map GTerm.c (a58_ ++ [c62_])), tk := [12] }, { tk := [19] }] [] [0, 3, 4] [] [] ⟨[(0, (.v (.sl (List.map GTerm.c a57_)), [])), (3, (.v (.sl (List.map GTerm.c (a58_ ++ [c62_]))), [(0, .app 37)])), (4, (.v (.int .i64 b59_), []))], [], []⟩ _ (by kernel_rfl) (.cons (at_obl (c := GTerm.c) (GTerm.c_eq c61_) GTerm.c_len h70) (.cons (len_ok 4 [.int .i64 c61_.gKind, .str c61_.gName, .int .i64 c61_.gNum, .sl (List.map GTerm.c c61_.gKids)]) (.cons (ih_pspec_l34Term h71) (.cons (cl_cons (c := GTerm.c) (x := c62_) (GTerm.c_eq c62_) (cl_nil GTerm.c)) (.cons (app_re2 GTerm.c a58_ [c62_]) (.cons (app_leaf (c := GTerm.c) (ys := [c62_]) GTerm.c_leaf) (.cons (app_obl2 (c := GTerm.c) (xs := a58_) (ys := [c62_]) GTerm.c_len h72) .nil))))))) ?_
            refine Wc.region [] [] [0, 3, 4] [] [] ⟨[(0, (.v (.sl (List.map GTerm.c a57_)), [])), (3, (.v (.sl (List.map GTerm.c (a58_ ++ [c62_]))), [(0, .app 37)])), (4, (.v (.int .i64 (wr.i64 (b59_ + 1))), []))], [], []⟩ _ (by kernel_rfl) .nil ?_
            exact ⟨_, Nat.lt_succ_self _, _, _, rfl, h68⟩
          · refine Wc.condF h69 (by kernel_rfl) ?_
            refine Wc.fix (st' := ⟨[(3, (.v (.sl (List.map GTerm.c a58_)), [(0, .app 37)]))], [], []⟩) [] [3] [] [] (by kernel_rfl) ?_
            refine Wc.exit ?_
            obtain rfl := Option.some.inj h68
            exact ⟨_, rfl, rfl⟩
      · rintro st ⟨a60_, rfl, rfl⟩
        refine Wc.seq ?_
        refine Wc.region [{ tk := [3] }, { tk := [20] }] [] [2] [] [] ⟨[(2, (.v (.sl (List.map GTerm.c a60_)), [(0, .app 37)]))], [], []⟩ _ (by kernel_rfl) .nil ?_
        refine Wc.ret ?_
        obtain rfl := Option.some.inj h
        exact ⟨.inl rfl, by kernel_rfl, by kernel_rfl⟩
theorem cspec_l34Term {k : Nat} {c55_ : GTerm} {r : GTerm} (h : pspec_l34Term k c55_ = some r) : FnO Try.prog 54 [.v (.agg [.int .i64 c55_.gKind, .str c55_.gName, .int .i64 c55_.gNum, .sl (List.map GTerm.c c55_.gKids)]) []] (.v (.agg [.int .i64 r.gKind, .str r.gName, .int .i64 r.gNum, .sl (List.map GTerm.c r.gKids)]) [(3, .app 37)]) [] := (all_pspec_l34Term k).1 h
theorem cspec_l34Terms {k : Nat} {a57_ : List GTerm} {r : (List GTerm)} (h : pspec_l34Terms k a57_ = some r) : FnO Try.prog 93 [.v (.sl (List.map GTerm.c a57_)) []] (.v (.sl (List.map GTerm.c r)) [(0, .app 37)]) [] := (all_pspec_l34Term k).2 h

/-- spec.l03Is -/
def pspec_l03Is (k : Nat) (c63_ : GTerm) (d64_ : ByteArray) (b65_ : Int) : Option Bool :=
  if (c63_.gKind == 4) = true then
    if (sEq c63_.gName d64_) = true then
      some ((c63_.gKids.length : Int) == b65_)
    else
      some false
  else
    some false
theorem cspec_l03Is {k : Nat} {c63_ : GTerm} {d64_ : ByteArray} {b65_ : Int} {r : Bool} (h : pspec_l03Is k c63_ d64_ b65_ = some r) : FnO Try.prog 136 [.v (.agg [.int .i64 c63_.gKind, .str c63_.gName, .int .i64 c63_.gNum, .sl (List.map GTerm.c c63_.gKids)]) [], .v (.str d64_) [], .v (.int .i64 b65_) []] (.v (.bool r) []) [] := by
  refine FnO.of Try.func136 (rfl : Try.f136.body = some _) (Nat.le_of_ble_eq_true (by kernel_rfl)) (Nat.le_of_ble_eq_true (by kernel_rfl)) ?_
  intro w0 X0 Fin pv0 pb
  unfold pspec_l03Is at h
  refine Wc.seq ?_
  refine Wc.region [] [] [1, 2, 3] [3] [] ⟨[(1, (.v (.str d64_), [])), (2, (.v (.int .i64 b65_), [])), (3, (.ptr 3 0, []))], [(3, .cells [.int .i64 c63_.gKind, .str c63_.gName, .int .i64 c63_.gNum, .sl (List.map GTerm.c c63_.gKids)] [])], []⟩ _ (by kernel_rfl) .nil ?_
  refine Wc.seq ?_
  rcases oif h with ⟨h73, h⟩ | ⟨h73, h⟩
  · rcases oif h with ⟨h74, h⟩ | ⟨h74, h⟩
    · refine Wc.region [{}, {}, {}, { re := some (.bool true) }, {}, {}, {}, {}, {}, { re := some (.bool true) }, {}, {}, { v := some (.int .i64 (c63_.gKids.length : Int)) }] [] [6] [] [] ⟨[(6, (.v (.bool ((c63_.gKids.length : Int) == b65_)), []))], [], []⟩ _ (by kernel_rfl) (.cons (congrArg AV.bool h73) (.cons (congrArg AV.bool h74) (.cons (len_obl GTerm.c c63_.gKids) .nil))) ?_
      refine Wc.ret ?_
      obtain rfl := Option.some.inj h
      exact ⟨.inl rfl, by kernel_rfl, by kernel_rfl⟩
    · refine Wc.region [{}, {}, {}, { re := some (.bool true) }, {}, {}, {}, {}, {}, { re := some (.bool false) }] [] [6] [] [] ⟨[(6, (.v (.bool false), []))], [], []⟩ _ (by kernel_rfl) (.cons (congrArg AV.bool h73) (.cons (congrArg AV.bool h74) .nil)) ?_
      refine Wc.ret ?_
      obtain rfl := Option.some.inj h
      exact ⟨.inl rfl, by kernel_rfl, by kernel_rfl⟩
  · refine Wc.region [{}, {}, {}, { re := some (.bool false) }] [] [6] [] [] ⟨[(6, (.v (.bool false), []))], [], []⟩ _ (by kernel_rfl) (.cons (congrArg AV.bool h73) .nil) ?_
    refine Wc.ret ?_
    obtain rfl := Option.some.inj h
    exact ⟨.inl rfl, by kernel_rfl, by kernel_rfl⟩

def pspec_l21ItemsOfRaw_L1 (k : Nat) : Nat → (List GTerm) → GTerm → Option (Out ((List GTerm) × Bool) ((List GTerm) × GTerm))
  | 0, _, _ => none
  | m + 1, a77_, c78_ =>
    (pspec_l03Is k c78_ (bs [46]) 2).bind fun e81_ =>
    if e81_ = true then
      (at' c78_.gKids 0).bind fun c82_ =>
      if a77_.length + [c82_].length ≤ 1073741824 then
        (at' c78_.gKids 1).bind fun c83_ =>
        pspec_l21ItemsOfRaw_L1 k m (a77_ ++ [c82_]) c83_
      else none
    else
      some (.done (a77_, c78_))
/-- spec.l21ItemsOfRaw -/
def pspec_l21ItemsOfRaw (k : Nat) (c75_ : GTerm) : Option ((List GTerm) × Bool) :=
  (pspec_TermOk k c75_).bind fun e76_ =>
  if (!e76_) = true then
    some ([], false)
  else
    (pspec_l21ItemsOfRaw_L1 k k [] c75_).bind fun out1 => match out1 with
    | .ret r => some r
    | .done (a79_, c80_) =>
      if (c80_.gKind != 2) = true then
        some ([], false)
      else
        if (!(sEq c80_.gName (bs [91, 93]))) = true then
          some ([], false)
        else
          some (a79_, true)
theorem cspec_l21ItemsOfRaw {k : Nat} {c75_ : GTerm} {r : (List GTerm) × Bool} (h : pspec_l21ItemsOfRaw k c75_ = some r) : FnO Try.prog 126 [.v (.agg [.int .i64 c75_.gKind, .str c75_.gName, .int .i64 c75_.gNum, .sl (List.map GTerm.c c75_.gKids)]) []] (.v (.tup [.sl (List.map GTerm.c r.1), .bool r.2]) [(0, .app 37)]) [] := by
  refine FnO.of Try.func126 (rfl : Try.f126.body = some _) (Nat.le_of_ble_eq_true (by kernel_rfl)) (Nat.le_of_ble_eq_true (by kernel_rfl)) ?_
  intro w0 X0 Fin pv0 pb
  unfold pspec_l21ItemsOfRaw at h
  refine Wc.seq ?_
  refine Wc.region [] [] [1] [1] [] ⟨[(1, (.ptr 1 0, []))], [(1, .cells [.int .i64 c75_.gKind, .str c75_.gName, .int .i64 c75_.gNum, .sl (List.map GTerm.c c75_.gKids)] [])], []⟩ _ (by kernel_rfl) .nil ?_
  refine Wc.seq ?_
  refine Wc.region [{ c := some (List.map GTerm.c []) }, { tk := [5] }] [] [1, 4] [1] [] ⟨[(1, (.ptr 1 0, [])), (4, (.v (.sl (List.map GTerm.c [])), [(0, .app 37)]))], [(1, .cells [.int .i64 c75_.gKind, .str c75_.gName, .int .i64 c75_.gNum, .sl (List.map GTerm.c c75_.gKids)] [])], []⟩ _ (by kernel_rfl) (.cons (cl_nil GTerm.c) .nil) ?_
  refine Wc.seq ?_
  refine Wc.seq ?_
  obtain ⟨e76_, h85, h⟩ := obind h
  refine Wc.region [{}, { r := some (.v (.bool e76_) []) }] [] [1, 4, 8] [1] [] ⟨[(1, (.ptr 1 0, [])), (4, (.v (.sl (List.map GTerm.c [])), [(0, .app 37)])), (8, (.v (.bool (!e76_)), []))], [(1, .cells [.int .i64 c75_.gKind, .str c75_.gName, .int .i64 c75_.gNum, .sl (List.map GTerm.c c75_.gKids)] [])], []⟩ _ (by kernel_rfl) (.cons (cspec_TermOk h85) .nil) ?_
  rcases oif h with ⟨h86, h⟩ | ⟨h86, h⟩
  · refine Wc.condT h86 (by kernel_rfl) ?_
    refine Wc.seq ?_
    refine Wc.region [{ tk := [4] }, { tk := [9] }] [] [2, 3] [] [] ⟨[(2, (.v (.sl (List.map GTerm.c [])), [(0, .app 37)])), (3, (.v (.bool false), []))], [], []⟩ _ (by kernel_rfl) .nil ?_
    refine Wc.ret ?_
    obtain rfl := Option.some.inj h
    exact ⟨.inl rfl, by kernel_rfl, by kernel_rfl⟩
  · refine Wc.condF h86 (by kernel_rfl) ?_
    refine Wc.fix (st' := ⟨[(1, (.ptr 1 0, [])), (4, (.v (.sl (List.map GTerm.c [])), [(0, .app 37)]))], [(1, .cells [.int .i64 c75_.gKind, .str c75_.gName, .int .i64 c75_.gNum, .sl (List.map GTerm.c c75_.gKids)] [])], []⟩) [] [1, 4] [1] [] (by kernel_rfl) ?_
    refine Wc.skip ?_
    obtain ⟨out1, h87, h⟩ := obind h
    refine Wc.seqJ (fun st => ∃ (a79_ : List GTerm) (c80_ : GTerm), out1 = .done (a79_, c80_) ∧ st = ⟨[(1, (.ptr 1 0, [])), (4, (.v (.sl (List.map GTerm.c a79_)), [(0, .app 37)]))], [(1, .cells [.int .i64 c80_.gKind, .str c80_.gName, .int .i64 c80_.gNum, .sl (List.map GTerm.c c80_.gKids)] [])], []⟩) ?_ ?_
    · refine Wc.block ?_
      refine Wc.loop (fun m st => ∃ (a77_ : List GTerm) (c78_ : GTerm), st = ⟨[(1, (.ptr 1 0, [])), (4, (.v (.sl (List.map GTerm.c a77_)), [(0, .app 37)]))], [(1, .cells [.int .i64 c78_.gKind, .str c78_.gName, .int .i64 c78_.gNum, .sl (List.map GTerm.c c78_.gKids)] [])], []⟩ ∧ pspec_l21ItemsOfRaw_L1 k m a77_ c78_ = some out1) ?_ k ⟨_, _, rfl, h87⟩
      rintro m st ⟨a77_, c78_, rfl, h87⟩
      cases m with
      | zero => exact (onone h87).elim
      | succ m =>
        refine Wc.seq ?_
        refine Wc.seq ?_
        obtain ⟨e81_, h88, h87⟩ := obind h87
        refine Wc.region [{}, { r := some (.v (.bool e81_) []) }] [] [1, 4, 11] [1] [] ⟨[(1, (.ptr 1 0, [])), (4, (.v (.sl (List.map GTerm.c a77_)), [(0, .app 37)])), (11, (.v (.bool e81_), []))], [(1, .cells [.int .i64 c78_.gKind, .str c78_.gName, .int .i64 c78_.gNum, .sl (List.map GTerm.c c78_.gKids)] [])], []⟩ _ (by kernel_rfl) (.cons (cspec_l03Is h88) .nil) ?_
        rcases oif h87 with ⟨h89, h87⟩ | ⟨h89, h87⟩
        · refine Wc.condT h89 (by kernel_rfl) ?_
          refine Wc.fix (st' := ⟨[(1, (.ptr 1 0, [])), (4, (.v (.sl (List.map GTerm.c a77_)), [(0, .app 37)]))], [(1, .cells [.int .i64 c78_.gKind, .str c78_.gName, .int .i64 c78_.gNum, .sl (List.map GTerm.c c78_.gKids)] [])], []⟩) [] [1, 4] [1] [] (by kernel_rfl) ?_
          refine Wc.skip ?_
          refine Wc.block ?_
          refine Wc.seq ?_
          obtain ⟨c82_, h90, h87⟩ := obind h87
          obtain ⟨h91, h87⟩ := oguard h87
          refine Wc.region [{ tk := [4] }, {}, {}, { v := some (.vptr [.int .i64 c82_.gKind, .str c82_.gName, .int .i64 c82_.gNum, .sl (List.map GTerm.c c82_.gKids)]) }, {}, { c := some (List.map GTerm.c [c82_]) }, { c := some (List.map GTerm.c (a77_ ++ [c82_])), tk := [12] }, { tk := [18] }] [] [1, 4] [1] [] ⟨[(1, (.ptr 1 0, [])), (4, (.v (.sl (List.map GTerm.c (a77_ ++ [c82_]))), [(0, .app 37)]))], [(1, .cells [.int .i64 c78_.gKind, .str c78_.gName, .int .i64 c78_.gNum, .sl (List.map GTerm.c c78_.gKids)] [])], []⟩ _ (by kernel_rfl) (.cons (at_obl (c := GTerm.c) (GTerm.c_eq c82_) GTerm.c_len h90) (.cons (len_ok 4 [.int .i64 c82_.gKind, .str c82_.gName, .int .i64 c82_.gNum, .sl (List.map GTerm.c c82_.gKids)]) (.cons (cl_cons (c := GTerm.c) (x := c82_) (GTerm.c_eq c82_) (cl_nil GTerm.c)) (.cons (app_re2 GTerm.c a77_ [c82_]) (.cons (app_leaf (c := GTerm.c) (ys := [c82_]) GTerm.c_leaf) (.cons (app_obl2 (c := GTerm.c) (xs := a77_) (ys := [c82_]) GTerm.c_len h91) .nil)))))) ?_
          obtain ⟨c83_, h92, h87⟩ := obind h87
          refine Wc.region [{}, {}, { v := some (.vptr [.int .i64 c83_.gKind, .str c83_.gName, .int .i64 c83_.gNum, .sl (List.map GTerm.c c83_.gKids)]) }] [] [1, 4] [1] [] ⟨[(1, (.ptr 1 0, [])), (4, (.v (.sl (List.map GTerm.c (a77_ ++ [c82_]))), [(0, .app 37)]))], [(1, .cells [.int .i64 c83_.gKind, .str c83_.gName, .int .i64 c83_.gNum, .sl (List.map GTerm.c c83_.gKids)] [])], []⟩ _ (by kernel_rfl) (.cons (at_obl (c := GTerm.c) (GTerm.c_eq c83_) GTerm.c_len h92) (.cons (len_ok 4 [.int .i64 c83_.gKind, .str c83_.gName, .int .i64 c83_.gNum, .sl (List.map GTerm.c c83_.gKids)]) .nil)) ?_
          exact ⟨_, Nat.lt_succ_self _, _, _, rfl, h87⟩
        · refine Wc.condF h89 (by kernel_rfl) ?_
          refine Wc.fix (st' := ⟨[(1, (.ptr 1 0, [])), (4, (.v (.sl (List.map GTerm.c a77_)), [(0, .app 37)]))], [(1, .cells [.int .i64 c78_.gKind, .str c78_.gName, .int .i64 c78_.gNum, .sl (List.map GTerm.c c78_.gKids)] [])], []⟩) [] [1, 4] [1] [] (by kernel_rfl) ?_
          refine Wc.exit ?_
          obtain rfl := Option.some.inj h87
          exact ⟨_, _, rfl, rfl⟩
    · rintro st ⟨a79_, c80_, rfl, rfl⟩
      refine Wc.seq ?_
      refine Wc.seq ?_
      rcases oif h with ⟨h93, h⟩ | ⟨h93, h⟩
      · refine Wc.region [{}, {}, {}, { re := some (.bool true) }] [] [4, 30] [] [] ⟨[(4, (.v (.sl (List.map GTerm.c a79_)), [(0, .app 37)])), (30, (.v (.bool true), []))], [], []⟩ _ (by kernel_rfl) (.cons (congrArg AV.bool h93) .nil) ?_
        refine Wc.condT rfl (by kernel_rfl) ?_
        refine Wc.seq ?_
        refine Wc.region [{ c := some (List.map GTerm.c []) }, { tk := [31] }] [] [2, 3] [] [] ⟨[(2, (.v (.sl (List.map GTerm.c [])), [(0, .app 37)])), (3, (.v (.bool false), []))], [], []⟩ _ (by kernel_rfl) (.cons (cl_nil GTerm.c) .nil) ?_
        refine Wc.ret ?_
        obtain rfl := Option.some.inj h
        exact ⟨.inl rfl, by kernel_rfl, by kernel_rfl⟩
      · refine Wc.region [{}, {}, {}, { re := some (.bool false) }] [] [4, 30] [] [] ⟨[(4, (.v (.sl (List.map GTerm.c a79_)), [(0, .app 37)])), (30, (.v (.bool (!(sEq c80_.gName (bs [91, 93])))), []))], [], []⟩ _ (by kernel_rfl) (.cons (congrArg AV.bool h93) .nil) ?_
        rcases oif h with ⟨h94, h⟩ | ⟨h94, h⟩
        · refine Wc.condT h94 (by kernel_rfl) ?_
          refine Wc.seq ?_
          refine Wc.region [{ c := some (List.map GTerm.c []) }, { tk := [31] }] [] [2, 3] [] [] ⟨[(2, (.v (.sl (List.map GTerm.c [])), [(0, .app 37)])), (3, (.v (.bool false), []))], [], []⟩ _ (by kernel_rfl) (.cons (cl_nil GTerm.c) .nil) ?_
          refine Wc.ret ?_
          obtain rfl := Option.some.inj h
          exact ⟨.inl rfl, by kernel_rfl, by kernel_rfl⟩
        · refine Wc.condF h94 (by kernel_rfl) ?_
          refine Wc.fix (st' := ⟨[(4, (.v (.sl (List.map GTerm.c a79_)), [(0, .app 37)]))], [], []⟩) [] [4] [] [] (by kernel_rfl) ?_
          refine Wc.skip ?_
          refine Wc.seq ?_
          refine Wc.region [{ tk := [4] }, { tk := [32] }] [] [2, 3] [] [] ⟨[(2, (.v (.sl (List.map GTerm.c a79_)), [(0, .app 37)])), (3, (.v (.bool true), []))], [], []⟩ _ (by kernel_rfl) .nil ?_
          refine Wc.ret ?_
          obtain rfl := Option.some.inj h
          exact ⟨.inl rfl, by kernel_rfl, by kernel_rfl⟩

/-- spec.ItemsOf -/
def pspec_ItemsOf (k : Nat) (c87_ : GTerm) : Option ((List GTerm) × Bool) :=
  (pspec_l21ItemsOfRaw k c87_).bind fun g88_ =>
  (pspec_l34Terms k g88_.1).bind fun f89_ =>
  some (f89_, g88_.2)
theorem cspec_ItemsOf {k : Nat} {c87_ : GTerm} {r : (List GTerm) × Bool} (h : pspec_ItemsOf k c87_ = some r) : FnO Try.prog 91 [.v (.agg [.int .i64 c87_.gKind, .str c87_.gName, .int .i64 c87_.gNum, .sl (List.map GTerm.c c87_.gKids)]) []] (.v (.tup [.sl (List.map GTerm.c r.1), .bool r.2]) [(0, .app 37)]) [] := by
  refine FnO.of Try.func91 (rfl : Try.f91.body = some _) (Nat.le_of_ble_eq_true (by kernel_rfl)) (Nat.le_of_ble_eq_true (by kernel_rfl)) ?_
  intro w0 X0 Fin pv0 pb
  unfold pspec_ItemsOf at h
  refine Wc.seq ?_
  refine Wc.region [] [] [1] [1] [] ⟨[(1, (.ptr 1 0, []))], [(1, .cells [.int .i64 c87_.gKind, .str c87_.gName, .int .i64 c87_.gNum, .sl (List.map GTerm.c c87_.gKids)] [])], []⟩ _ (by kernel_rfl) .nil ?_
  refine Wc.seq ?_
  obtain ⟨g88_, h97, h⟩ := obind h
  refine Wc.region [{}, { r := some (.v (.tup [.sl (List.map GTerm.c g88_.1), .bool g88_.2]) [(0, .app 37)]) }, { tk := [8] }, { tk := [6] }, {}, { tk := [9] }] [] [4, 5] [] [] ⟨[(4, (.v (.sl (List.map GTerm.c g88_.1)), [(0, .app 37)])), (5, (.v (.bool g88_.2), []))], [], []⟩ _ (by kernel_rfl) (.cons (cspec_l21ItemsOfRaw h97) .nil) ?_
  refine Wc.seq ?_
  obtain ⟨f89_, h98, h⟩ := obind h
  refine Wc.region [{ tk := [4] }, { r := some (.v (.sl (List.map GTerm.c f89_)) [(0, .app 37)]) }, {}, { tk := [12] }] [] [2, 3] [] [] ⟨[(2, (.v (.sl (List.map GTerm.c f89_)), [(0, .app 37)])), (3, (.v (.bool g88_.2), []))], [], []⟩ _ (by kernel_rfl) (.cons (cspec_l34Terms h98) .nil) ?_
  refine Wc.ret ?_
  obtain rfl := Option.some.inj h
  exact ⟨.inl rfl, by kernel_rfl, by kernel_rfl⟩

/-- spec.l03Atom -/
def pspec_l03Atom (k : Nat) (d91_ : ByteArray) : Option GTerm :=
  some (GTerm.mk 2 d91_ 0 [])
theorem cspec_l03Atom {k : Nat} {d91_ : ByteArray} {r : GTerm} (h : pspec_l03Atom k d91_ = some r) : FnO Try.prog 101 [.v (.str d91_) []] (.v (.agg [.int .i64 r.gKind, .str r.gName, .int .i64 r.gNum, .sl (List.map GTerm.c r.gKids)]) [(3, .app 37)]) [] := by
  refine FnO.of Try.func101 (rfl : Try.f101.body = some _) (Nat.le_of_ble_eq_true (by kernel_rfl)) (Nat.le_of_ble_eq_true (by kernel_rfl)) ?_
  intro w0 X0 Fin pv0 pb
  unfold pspec_l03Atom at h
  refine Wc.seq ?_
  refine Wc.region [] [] [0, 2] [2] [] ⟨[(0, (.v (.str d91_), [])), (2, (.ptr 2 0, []))], [(2, .cells [.int .i64 0, .str (bs []), .int .i64 0, .sl (List.map GTerm.c [])] [(3, .app 37)])], []⟩ _ (by kernel_rfl) .nil ?_
  refine Wc.seq ?_
  refine Wc.region [{}, {}, { tk := [4] }] [] [2] [2] [] ⟨[(2, (.ptr 2 0, []))], [(2, .cells [.int .i64 2, .str d91_, .int .i64 0, .sl (List.map GTerm.c [])] [(3, .app 37)])], []⟩ _ (by kernel_rfl) .nil ?_
  refine Wc.ret ?_
  obtain rfl := Option.some.inj h
  exact ⟨.inl rfl, by kernel_rfl, by kernel_rfl⟩

/-- spec.l03Two -/
def pspec_l03Two (k : Nat) (d95_ : ByteArray) (c96_ : GTerm) (c97_ : GTerm) : Option GTerm :=
  some (GTerm.mk 4 d95_ 0 [c96_, c97_])
theorem cspec_l03Two {k : Nat} {d95_ : ByteArray} {c96_ : GTerm} {c97_ : GTerm} {r : GTerm} (h : pspec_l03Two k d95_ c96_ c97_ = some r) : FnO Try.prog 127 [.v (.str d95_) [], .v (.agg [.int .i64 c96_.gKind, .str c96_.gName, .int .i64 c96_.gNum, .sl (List.map GTerm.c c96_.gKids)]) [], .v (.agg [.int .i64 c97_.gKind, .str c97_.gName, .int .i64 c97_.gNum, .sl (List.map GTerm.c c97_.gKids)]) []] (.v (.agg [.int .i64 r.gKind, .str r.gName, .int .i64 r.gNum, .sl (List.map GTerm.c r.gKids)]) [(3, .app 37)]) [] := by
  refine FnO.of Try.func127 (rfl : Try.f127.body = some _) (Nat.le_of_ble_eq_true (by kernel_rfl)) (Nat.le_of_ble_eq_true (by kernel_rfl)) ?_
  intro w0 X0 Fin pv0 pb
  unfold pspec_l03Two at h
  refine Wc.seq ?_
  refine Wc.region [] [] [0, 4, 5, 6] [4, 5, 6] [] ⟨[(0, (.v (.str d95_), [])), (4, (.ptr 4 0, [])), (5, (.ptr 5 0, [])), (6, (.ptr 6 0, []))], [(4, .cells [.int .i64 c96_.gKind, .str c96_.gName, .int .i64 c96_.gNum, .sl (List.map GTerm.c c96_.gKids)] []), (5, .cells [.int .i64 c97_.gKind, .str c97_.gName, .int .i64 c97_.gNum, .sl (List.map GTerm.c c97_.gKids)] []), (6, .cells [.int .i64 0, .str (bs []), .int .i64 0, .sl (List.map GTerm.c [])] [(3, .app 37)])], []⟩ _ (by kernel_rfl) .nil ?_
  refine Wc.seq ?_
  refine Wc.region [{}, {}, {}, { c := some (List.map GTerm.c [c96_, c97_]) }, { tk := [10] }, { tk := [11] }] [] [6] [6] [] ⟨[(6, (.ptr 6 0, []))], [(6, .cells [.int .i64 4, .str d95_, .int .i64 0, .sl (List.map GTerm.c [c96_, c97_])] [(3, .app 37)])], []⟩ _ (by kernel_rfl) (.cons (cl_cons (c := GTerm.c) (x := c96_) (GTerm.c_eq c96_) (cl_cons (c := GTerm.c) (x := c97_) (GTerm.c_eq c97_) (cl_nil GTerm.c))) .nil) ?_
  refine Wc.ret ?_
  obtain rfl := Option.some.inj h
  exact ⟨.inl rfl, by kernel_rfl, by kernel_rfl⟩

def pspec_l21Make_L1 (k : Nat) (a105_ : List GTerm) : Nat → Int → GTerm → Option (Out GTerm GTerm)
  | 0, _, _ => none
  | m + 1, b107_, c108_ =>
    if (decide (b107_ ≥ 0)) = true then
      (at' a105_ b107_).bind fun c110_ =>
      (pspec_l03Two k (bs [46]) c110_ c108_).bind fun c111_ =>
      pspec_l21Make_L1 k a105_ m (wr.i64 (b107_ - 1)) c111_
    else
      some (.done c108_)
/-- spec.l21Make -/
def pspec_l21Make (k : Nat) (a105_ : List GTerm) : Option GTerm :=
  (pspec_l03Atom k (bs [91, 93])).bind fun c106_ =>
  (pspec_l21Make_L1 k a105_ k (wr.i64 ((a105_.length : Int) - 1)) c106_).bind fun out1 => match out1 with
  | .ret r => some r
  | .done c109_ =>
    some c109_
theorem cspec_l21Make {k : Nat} {a105_ : List GTerm} {r : GTerm} (h : pspec_l21Make k a105_ = some r) : FnO Try.prog 92 [.v (.sl (List.map GTerm.c a105_)) []] (.v (.agg [.int .i64 r.gKind, .str r.gName, .int .i64 r.gNum, .sl (List.map GTerm.c r.gKids)]) [(3, .app 37)]) [] := by
  refine FnO.of Try.func92 (rfl : Try.f92.body = some _) (Nat.le_of_ble_eq_true (by kernel_rfl)) (Nat.le_of_ble_eq_true (by kernel_rfl)) ?_
  intro w0 X0 Fin pv0 pb
  unfold pspec_l21Make at h
  refine Wc.seq ?_
  refine Wc.region [] [] [0, 2] [2] [] ⟨[(0, (.v (.sl (List.map GTerm.c a105_)), [])), (2, (.ptr 2 0, []))], [(2, .cells [.int .i64 0, .str (bs []), .int .i64 0, .sl (List.map GTerm.c [])] [(3, .app 37)])], []⟩ _ (by kernel_rfl) .nil ?_
  refine Wc.seq ?_
  obtain ⟨c106_, h104, h⟩ := obind h
  refine Wc.region [{ r := some (.v (.agg [.int .i64 c106_.gKind, .str c106_.gName, .int .i64 c106_.gNum, .sl (List.map GTerm.c c106_.gKids)]) [(3, .app 37)]) }, {}, { tk := [5] }] [] [0, 2, 3] [2, 3] [] ⟨[(0, (.v (.sl (List.map GTerm.c a105_)), [])), (2, (.ptr 2 0, [])), (3, (.ptr 3 0, []))], [(2, .cells [.int .i64 0, .str (bs []), .int .i64 0, .sl (List.map GTerm.c [])] [(3, .app 37)]), (3, .cells [.int .i64 c106_.gKind, .str c106_.gName, .int .i64 c106_.gNum, .sl (List.map GTerm.c c106_.gKids)] [(3, .app 37)])], []⟩ _ (by kernel_rfl) (.cons (cspec_l03Atom h104) .nil) ?_
  refine Wc.seq ?_
  refine Wc.seq ?_
  refine Wc.region [{}, { v := some (.int .i64 (a105_.length : Int)) }] [] [0, 2, 3, 4] [2, 3] [] ⟨[(0, (.v (.sl (List.map GTerm.c a105_)), [])), (2, (.ptr 2 0, [])), (3, (.ptr 3 0, [])), (4, (.v (.int .i64 (wr.i64 ((a105_.length : Int) - 1))), []))], [(2, .cells [.int .i64 0, .str (bs []), .int .i64 0, .sl (List.map GTerm.c [])] [(3, .app 37)]), (3, .cells [.int .i64 c106_.gKind, .str c106_.gName, .int .i64 c106_.gNum, .sl (List.map GTerm.c c106_.gKids)] [(3, .app 37)])], []⟩ _ (by kernel_rfl) (.cons (len_obl GTerm.c a105_) .nil) ?_
  obtain ⟨out1, h105, h⟩ := obind h
  refine Wc.lastJ (fun st => ∃ (c109_ : GTerm), out1 = .done c109_ ∧ st = ⟨[(2, (.ptr 2 0, [])), (3, (.ptr 3 0, []))], [(2, .cells [.int .i64 0, .str (bs []), .int .i64 0, .sl (List.map GTerm.c [])] [(3, .app 37)]), (3, .cells [.int .i64 c109_.gKind, .str c109_.gName, .int .i64 c109_.gNum, .sl (List.map GTerm.c c109_.gKids)] [(3, .app 37)])], []⟩) ?_ ?_
  · refine Wc.block ?_
    refine Wc.loop (fun m st => ∃ (b107_ : Int) (c108_ : GTerm), st = ⟨[(0, (.v (.sl (List.map GTerm.c a105_)), [])), (2, (.ptr 2 0, [])), (3, (.ptr 3 0, [])), (4, (.v (.int .i64 b107_), []))], [(2, .cells [.int .i64 0, .str (bs []), .int .i64 0, .sl (List.map GTerm.c [])] [(3, .app 37)]), (3, .cells [.int .i64 c108_.gKind, .str c108_.gName, .int .i64 c108_.gNum, .sl (List.map GTerm.c c108_.gKids)] [(3, .app 37)])], []⟩ ∧ pspec_l21Make_L1 k a105_ m b107_ c108_ = some out1) ?_ k ⟨_, _, rfl, h105⟩
    rintro m st ⟨b107_, c108_, rfl, h105⟩
    cases m with
    | zero => exact (onone h105).elim
    | succ m =>
      refine Wc.seq ?_
      refine Wc.seq ?_
      refine Wc.region [] [] [0, 2, 3, 4, 10] [2, 3] [] ⟨[(0, (.v (.sl (List.map GTerm.c a105_)), [])), (2, (.ptr 2 0, [])), (3, (.ptr 3 0, [])), (4, (.v (.int .i64 b107_), [])), (10, (.v (.bool (decide (b107_ ≥ 0))), []))], [(2, .cells [.int .i64 0, .str (bs []), .int .i64 0, .sl (List.map GTerm.c [])] [(3, .app 37)]), (3, .cells [.int .i64 c108_.gKind, .str c108_.gName, .int .i64 c108_.gNum, .sl (List.map GTerm.c c108_.gKids)] [(3, .app 37)])], []⟩ _ (by kernel_rfl) .nil ?_
      rcases oif h105 with ⟨h106, h105⟩ | ⟨h106, h105⟩
      · refine Wc.condT h106 (by kernel_rfl) ?_
        refine Wc.fix (st' := ⟨[(0, (.v (.sl (List.map GTerm.c a105_)), [])), (2, (.ptr 2 0, [])), (3, (.ptr 3 0, [])), (4, (.v (.int .i64 b107_), []))], [(2, .cells [.int .i64 0, .str (bs []), .int .i64 0, .sl (List.map GTerm.c [])] [(3, .app 37)]), (3, .cells [.int .i64 c108_.gKind, .str c108_.gName, .int .i64 c108_.gNum, .sl (List.map GTerm.c c108_.gKids)] [(3, .app 37)])], []⟩) [] [0, 2, 3, 4] [2, 3] [] (by kernel_rfl) ?_
        refine Wc.skip ?_
        refine Wc.seq ?_
        refine Wc.block ?_
        obtain ⟨c110_, h107, h105⟩ := obind h105
        obtain ⟨c111_, h108, h105⟩ := obind h105
        refine Wc.draw hmix [{}, {}, { v := some (.vptr [.int .i64 c110_.gKind, .str c110_.gName, .int .i64 c110_.gNum, .sl (List.map GTerm.c c110_.gKids)]) }, {}, {}, { r := some (.v (.agg [.int .i64 c111_.gKind, .str c111_.gName, .int .i64 c111_.gNum, .sl (List.map GTerm.c c111_.gKids)]) [(3, .app 37)]) }, { tk := [18] }] [] [0, 2, 3, 4] [2, 3] [] ⟨[(0, (.v (.sl (List.map GTerm.c a105_)), [])), (2, (.ptr 2 0, [])), (3, (.ptr 3 0, [])), (4, (.v (.int .i64 b107_), []))], [(2, .cells [.int .i64 0, .str (bs []), .int .i64 0, .sl (List.map GTerm.c [])] [(3, .app 37)]), (3, .cells [.int .i64 c111_.gKind, .str c111_.gName, .int .i64 c111_.gNum, .sl (List.map GTerm.c c111_.gKids)] [(3, .app 37)])], []⟩ _ (by kernel_rfl) (fun X => by kernel_rfl) (.cons (at_obl (c := GTerm.c) (GTerm.c_eq c110_) GTerm.c_len h107) (.cons (len_ok 4 [.int .i64 c110_.gKind, .str c110_.gName, .int .i64 c110_.gNum, .sl (List.map GTerm.c c110_.gKids)]) (.cons (cspec_l03Two h108) .nil))) ?_
        refine Wc.region [] [] [0, 2, 3, 4] [2, 3] [] ⟨[(0, (.v (.sl (List.map GTerm.c a105_)), [])), (2, (.ptr 2 0, [])), (3, (.ptr 3 0, [])), (4, (.v (.int .i64 (wr.i64 (b107_ - 1))), []))], [(2, .cells [.int .i64 0, .str (bs []), .int .i64 0, .sl (List.map GTerm.c [])] [(3, .app 37)]), (3, .cells [.int .i64 c111_.gKind, .str c111_.gName, .int .i64 c111_.gNum, .sl (List.map GTerm.c c111_.gKids)] [(3, .app 37)])], []⟩ _ (by kernel_rfl) .nil ?_
        exact ⟨_, Nat.lt_succ_self _, _, _, rfl, h105⟩
      · refine Wc.condF h106 (by kernel_rfl) ?_
        refine Wc.fix (st' := ⟨[(2, (.ptr 2 0, [])), (3, (.ptr 3 0, []))], [(2, .cells [.int .i64 0, .str (bs []), .int .i64 0, .sl (List.map GTerm.c [])] [(3, .app 37)]), (3, .cells [.int .i64 c108_.gKind, .str c108_.gName, .int .i64 c108_.gNum, .sl (List.map GTerm.c c108_.gKids)] [(3, .app 37)])], []⟩) [] [2, 3] [2, 3] [] (by kernel_rfl) ?_
        refine Wc.exit ?_
        obtain rfl := Option.some.inj h105
        exact ⟨_, rfl, rfl⟩
  · rintro st ⟨c109_, rfl, rfl⟩
    refine Wc.seq ?_
    refine Wc.region [{ md := 1 }, { tk := [19] }] [] [2] [2] [] ⟨[(2, (.ptr 2 0, []))], [(2, .cells [.int .i64 c109_.gKind, .str c109_.gName, .int .i64 c109_.gNum, .sl (List.map GTerm.c c109_.gKids)] [(3, .app 37)])], []⟩ _ (by kernel_rfl) .nil ?_
    refine Wc.ret ?_
    obtain rfl := Option.some.inj h
    exact ⟨.inl rfl, by kernel_rfl, by kernel_rfl⟩

/-- spec.l21JoinedListsRaw -/
def pspec_l21JoinedListsRaw (k : Nat) (c118_ : GTerm) (c119_ : GTerm) : Option (GTerm × Bool) :=
  (pspec_ItemsOf k c118_).bind fun g120_ =>
  (pspec_ItemsOf k c119_).bind fun g121_ =>
  if g120_.1.length + g121_.1.length ≤ 1073741824 then
    (pspec_l21Make k (g120_.1 ++ g121_.1)).bind fun c122_ =>
    if (!g120_.2) = true then
      some (GTerm.mk 0 (bs []) 0 [], false)
    else
      if (!g121_.2) = true then
        some (GTerm.mk 0 (bs []) 0 [], false)
      else
        (pspec_TermOk k c122_).bind fun e123_ =>
        if (!e123_) = true then
          some (GTerm.mk 0 (bs []) 0 [], false)
        else
          some (c122_, true)
  else none
theorem cspec_l21JoinedListsRaw {k : Nat} {c118_ : GTerm} {c119_ : GTerm} {r : GTerm × Bool} (h : pspec_l21JoinedListsRaw k c118_ c119_ = some r) : FnO Try.prog 53 [.v (.agg [.int .i64 c118_.gKind, .str c118_.gName, .int .i64 c118_.gNum, .sl (List.map GTerm.c c118_.gKids)]) [], .v (.agg [.int .i64 c119_.gKind, .str c119_.gName, .int .i64 c119_.gNum, .sl (List.map GTerm.c c119_.gKids)]) []] (.v (.tup [.agg [.int .i64 r.1.gKind, .str r.1.gName, .int .i64 r.1.gNum, .sl (List.map GTerm.c r.1.gKids)], .bool r.2]) [(3, .app 37)]) [] := by
  refine FnO.of Try.func53 (rfl : Try.f53.body = some _) (Nat.le_of_ble_eq_true (by kernel_rfl)) (Nat.le_of_ble_eq_true (by kernel_rfl)) ?_
  intro w0 X0 Fin pv0 pb
  unfold pspec_l21JoinedListsRaw at h
  refine Wc.seq ?_
  refine Wc.region [] [] [2, 3, 4] [2, 3, 4] [] ⟨[(2, (.ptr 2 0, [])), (3, (.ptr 3 0, [])), (4, (.ptr 4 0, []))], [(2, .cells [.int .i64 c118_.gKind, .str c118_.gName, .int .i64 c118_.gNum, .sl (List.map GTerm.c c118_.gKids)] []), (3, .cells [.int .i64 c119_.gKind, .str c119_.gName, .int .i64 c119_.gNum, .sl (List.map GTerm.c c119_.gKids)] []), (4, .cells [.int .i64 0, .str (bs []), .int .i64 0, .sl (List.map GTerm.c [])] [(3, .app 37)])], []⟩ _ (by kernel_rfl) .nil ?_
  refine Wc.seq ?_
  obtain ⟨g120_, h117, h⟩ := obind h
  refine Wc.region [{}, { r := some (.v (.tup [.sl (List.map GTerm.c g120_.1), .bool g120_.2]) [(0, .app 37)]) }, { tk := [13] }, { tk := [11] }, {}, { tk := [14] }] [] [3, 4, 6, 7] [3, 4] [] ⟨[(3, (.ptr 3 0, [])), (4, (.ptr 4 0, [])), (6, (.v (.sl (List.map GTerm.c g120_.1)), [(0, .app 37)])), (7, (.v (.bool g120_.2), []))], [(3, .cells [.int .i64 c119_.gKind, .str c119_.gName, .int .i64 c119_.gNum, .sl (List.map GTerm.c c119_.gKids)] []), (4, .cells [.int .i64 0, .str (bs []), .int .i64 0, .sl (List.map GTerm.c [])] [(3, .app 37)])], []⟩ _ (by kernel_rfl) (.cons (cspec_ItemsOf h117) .nil) ?_
  refine Wc.seq ?_
  obtain ⟨g121_, h118, h⟩ := obind h
  refine Wc.region [{}, { r := some (.v (.tup [.sl (List.map GTerm.c g121_.1), .bool g121_.2]) [(0, .app 37)]) }, { tk := [18] }, { tk := [16] }, {}, { tk := [19] }] [] [4, 6, 7, 8, 9] [4] [] ⟨[(4, (.ptr 4 0, [])), (6, (.v (.sl (List.map GTerm.c g120_.1)), [(0, .app 37)])), (7, (.v (.bool g120_.2), [])), (8, (.v (.sl (List.map GTerm.c g121_.1)), [(0, .app 37)])), (9, (.v (.bool g121_.2), []))], [(4, .cells [.int .i64 0, .str (bs []), .int .i64 0, .sl (List.map GTerm.c [])] [(3, .app 37)])], []⟩ _ (by kernel_rfl) (.cons (cspec_ItemsOf h118) .nil) ?_
  refine Wc.seq ?_
  obtain ⟨h119, h⟩ := oguard h
  obtain ⟨c122_, h120, h⟩ := obind h
  refine Wc.region [{ tk := [6] }, { tk := [8] }, { c := some (List.map GTerm.c (g120_.1 ++ g121_.1)), tk := [21] }, { r := some (.v (.agg [.int .i64 c122_.gKind, .str c122_.gName, .int .i64 c122_.gNum, .sl (List.map GTerm.c c122_.gKids)]) [(3, .app 37)]) }, {}, { tk := [24] }] [] [4, 7, 9, 10] [4, 10] [] ⟨[(4, (.ptr 4 0, [])), (7, (.v (.bool g120_.2), [])), (9, (.v (.bool g121_.2), [])), (10, (.ptr 10 0, []))], [(4, .cells [.int .i64 0, .str (bs []), .int .i64 0, .sl (List.map GTerm.c [])] [(3, .app 37)]), (10, .cells [.int .i64 c122_.gKind, .str c122_.gName, .int .i64 c122_.gNum, .sl (List.map GTerm.c c122_.gKids)] [(3, .app 37)])], []⟩ _ (by kernel_rfl) (.cons (app_re2 GTerm.c g120_.1 g121_.1) (.cons (app_leaf (c := GTerm.c) (ys := g121_.1) GTerm.c_leaf) (.cons (app_obl2 (c := GTerm.c) (xs := g120_.1) (ys := g121_.1) GTerm.c_len h119) (.cons (cspec_l21Make h120) .nil)))) ?_
  refine Wc.seq ?_
  refine Wc.seq ?_
  rcases oif h with ⟨h121, h⟩ | ⟨h121, h⟩
  · refine Wc.region [{}, {}, { re := some (.bool true) }] [] [4, 10, 35] [4, 10] [] ⟨[(4, (.ptr 4 0, [])), (10, (.ptr 10 0, [])), (35, (.v (.bool true), []))], [(4, .cells [.int .i64 0, .str (bs []), .int .i64 0, .sl (List.map GTerm.c [])] [(3, .app 37)]), (10, .cells [.int .i64 c122_.gKind, .str c122_.gName, .int .i64 c122_.gNum, .sl (List.map GTerm.c c122_.gKids)] [(3, .app 37)])], []⟩ _ (by kernel_rfl) (.cons (congrArg AV.bool h121) .nil) ?_
    refine Wc.condT rfl (by kernel_rfl) ?_
    refine Wc.seq ?_
    refine Wc.region [{}, { tk := [36] }] [] [4, 5] [4] [] ⟨[(4, (.ptr 4 0, [])), (5, (.v (.bool false), []))], [(4, .cells [.int .i64 0, .str (bs []), .int .i64 0, .sl (List.map GTerm.c [])] [(3, .app 37)])], []⟩ _ (by kernel_rfl) .nil ?_
    refine Wc.ret ?_
    obtain rfl := Option.some.inj h
    exact ⟨.inl rfl, by kernel_rfl, by kernel_rfl⟩
  · rcases oif h with ⟨h122, h⟩ | ⟨h122, h⟩
    · refine Wc.region [{}, {}, { re := some (.bool false) }, {}, {}, {}, { re := some (.bool true) }] [] [4, 10, 35] [4, 10] [] ⟨[(4, (.ptr 4 0, [])), (10, (.ptr 10 0, [])), (35, (.v (.bool true), []))], [(4, .cells [.int .i64 0, .str (bs []), .int .i64 0, .sl (List.map GTerm.c [])] [(3, .app 37)]), (10, .cells [.int .i64 c122_.gKind, .str c122_.gName, .int .i64 c122_.gNum, .sl (List.map GTerm.c c122_.gKids)] [(3, .app 37)])], []⟩ _ (by kernel_rfl) (.cons (congrArg AV.bool h121) (.cons (congrArg AV.bool h122) .nil)) ?_
      refine Wc.condT rfl (by kernel_rfl) ?_
      refine Wc.seq ?_
      refine Wc.region [{}, { tk := [36] }] [] [4, 5] [4] [] ⟨[(4, (.ptr 4 0, [])), (5, (.v (.bool false), []))], [(4, .cells [.int .i64 0, .str (bs []), .int .i64 0, .sl (List.map GTerm.c [])] [(3, .app 37)])], []⟩ _ (by kernel_rfl) .nil ?_
      refine Wc.ret ?_
      obtain rfl := Option.some.inj h
      exact ⟨.inl rfl, by kernel_rfl, by kernel_rfl⟩
    · obtain ⟨e123_, h123, h⟩ := obind h
      refine Wc.region [{}, {}, { re := some (.bool false) }, {}, {}, {}, { re := some (.bool false) }, {}, { r := some (.v (.bool e123_) []) }] [] [4, 10, 35] [4, 10] [] ⟨[(4, (.ptr 4 0, [])), (10, (.ptr 10 0, [])), (35, (.v (.bool (!e123_)), []))], [(4, .cells [.int .i64 0, .str (bs []), .int .i64 0, .sl (List.map GTerm.c [])] [(3, .app 37)]), (10, .cells [.int .i64 c122_.gKind, .str c122_.gName, .int .i64 c122_.gNum, .sl (List.map GTerm.c c122_.gKids)] [(3, .app 37)])], []⟩ _ (by kernel_rfl) (.cons (congrArg AV.bool h121) (.cons (congrArg AV.bool h122) (.cons (cspec_TermOk h123) .nil))) ?_
      rcases oif h with ⟨h124, h⟩ | ⟨h124, h⟩
      · refine Wc.condT h124 (by kernel_rfl) ?_
        refine Wc.seq ?_
        refine Wc.region [{}, { tk := [36] }] [] [4, 5] [4] [] ⟨[(4, (.ptr 4 0, [])), (5, (.v (.bool false), []))], [(4, .cells [.int .i64 0, .str (bs []), .int .i64 0, .sl (List.map GTerm.c [])] [(3, .app 37)])], []⟩ _ (by kernel_rfl) .nil ?_
        refine Wc.ret ?_
        obtain rfl := Option.some.inj h
        exact ⟨.inl rfl, by kernel_rfl, by kernel_rfl⟩
      · refine Wc.condF h124 (by kernel_rfl) ?_
        refine Wc.fix (st' := ⟨[(4, (.ptr 4 0, [])), (10, (.ptr 10 0, []))], [(4, .cells [.int .i64 0, .str (bs []), .int .i64 0, .sl (List.map GTerm.c [])] [(3, .app 37)]), (10, .cells [.int .i64 c122_.gKind, .str c122_.gName, .int .i64 c122_.gNum, .sl (List.map GTerm.c c122_.gKids)] [(3, .app 37)])], []⟩) [] [4, 10] [4, 10] [] (by kernel_rfl) ?_
        refine Wc.skip ?_
        refine Wc.seq ?_
        refine Wc.region [{ md := 1 }, { tk := [37] }] [] [4, 5] [4] [] ⟨[(4, (.ptr 4 0, [])), (5, (.v (.bool true), []))], [(4, .cells [.int .i64 c122_.gKind, .str c122_.gName, .int .i64 c122_.gNum, .sl (List.map GTerm.c c122_.gKids)] [(3, .app 37)])], []⟩ _ (by kernel_rfl) .nil ?_
        refine Wc.ret ?_
        obtain rfl := Option.some.inj h
        exact ⟨.inl rfl, by kernel_rfl, by kernel_rfl⟩

/-- spec.JoinedLists -/
def pspec_JoinedLists (k : Nat) (c128_ : GTerm) (c129_ : GTerm) : Option (GTerm × Bool) :=
  (pspec_l21JoinedListsRaw k c128_ c129_).bind fun i130_ =>
  (pspec_l34Term k (GTerm.mk i130_.1.gKind i130_.1.gName i130_.1.gNum i130_.1.gKids)).bind fun c131_ =>
  some (c131_, i130_.2)
theorem cspec_JoinedLists {k : Nat} {c128_ : GTerm} {c129_ : GTerm} {r : GTerm × Bool} (h : pspec_JoinedLists k c128_ c129_ = some r) : FnO Try.prog 17 [.v (.agg [.int .i64 c128_.gKind, .str c128_.gName, .int .i64 c128_.gNum, .sl (List.map GTerm.c c128_.gKids)]) [], .v (.agg [.int .i64 c129_.gKind, .str c129_.gName, .int .i64 c129_.gNum, .sl (List.map GTerm.c c129_.gKids)]) []] (.v (.tup [.agg [.int .i64 r.1.gKind, .str r.1.gName, .int .i64 r.1.gNum, .sl (List.map GTerm.c r.1.gKids)], .bool r.2]) [(3, .app 37)]) [] := by
  refine FnO.of Try.func17 (rfl : Try.f17.body = some _) (Nat.le_of_ble_eq_true (by kernel_rfl)) (Nat.le_of_ble_eq_true (by kernel_rfl)) ?_
  intro w0 X0 Fin pv0 pb
  unfold pspec_JoinedLists at h
  refine Wc.seq ?_
  refine Wc.region [] [] [2, 3, 4] [2, 3, 4] [] ⟨[(2, (.ptr 2 0, [])), (3, (.ptr 3 0, [])), (4, (.ptr 4 0, []))], [(2, .cells [.int .i64 c128_.gKind, .str c128_.gName, .int .i64 c128_.gNum, .sl (List.map GTerm.c c128_.gKids)] []), (3, .cells [.int .i64 c129_.gKind, .str c129_.gName, .int .i64 c129_.gNum, .sl (List.map GTerm.c c129_.gKids)] []), (4, .cells [.int .i64 0, .str (bs []), .int .i64 0, .sl (List.map GTerm.c [])] [(3, .app 37)])], []⟩ _ (by kernel_rfl) .nil ?_
  refine Wc.seq ?_
  obtain ⟨i130_, h127, h⟩ := obind h
  refine Wc.region [{}, {}, { r := some (.v (.tup [.agg [.int .i64 i130_.1.gKind, .str i130_.1.gName, .int .i64 i130_.1.gNum, .sl (List.map GTerm.c i130_.1.gKids)], .bool i130_.2]) [(3, .app 37)]) }, { tk := [11] }, { tk := [8] }, {}, {}, { tk := [12] }] [] [4, 6, 7] [4, 6] [] ⟨[(4, (.ptr 4 0, [])), (6, (.ptr 6 0, [])), (7, (.v (.bool i130_.2), []))], [(4, .cells [.int .i64 0, .str (bs []), .int .i64 0, .sl (List.map GTerm.c [])] [(3, .app 37)]), (6, .cells [.int .i64 i130_.1.gKind, .str i130_.1.gName, .int .i64 i130_.1.gNum, .sl (List.map GTerm.c i130_.1.gKids)] [(3, .app 37)])], []⟩ _ (by kernel_rfl) (.cons (cspec_l21JoinedListsRaw h127) .nil) ?_
  refine Wc.seq ?_
  obtain ⟨c131_, h128, h⟩ := obind h
  refine Wc.region [{}, { r := some (.v (.agg [.int .i64 c131_.gKind, .str c131_.gName, .int .i64 c131_.gNum, .sl (List.map GTerm.c c131_.gKids)]) [(3, .app 37)]) }, {}, { tk := [15] }] [] [4, 5] [4] [] ⟨[(4, (.ptr 4 0, [])), (5, (.v (.bool i130_.2), []))], [(4, .cells [.int .i64 c131_.gKind, .str c131_.gName, .int .i64 c131_.gNum, .sl (List.map GTerm.c c131_.gKids)] [(3, .app 37)])], []⟩ _ (by kernel_rfl) (.cons (cspec_l34Term h128) .nil) ?_
  refine Wc.ret ?_
  obtain rfl := Option.some.inj h
  exact ⟨.inl rfl, by kernel_rfl, by kernel_rfl⟩

def plaws_toTermS_L1 (k : Nat) (rlaws_toTerm : GTerm → Option GTerm) (rlaws_toTermS : (List GTerm) → Option (List GTerm)) (a134_ : List GTerm) : Nat → (List GTerm) → Int → Option (Out (List GTerm) (List GTerm))
  | 0, _, _ => none
  | m + 1, a135_, b136_ =>
    if (decide (b136_ < (a134_.length : Int))) = true then
      (at' a134_ b136_).bind fun c138_ =>
      (rlaws_toTerm c138_).bind fun c139_ =>
      (at' a135_ b136_).bind fun c140_ =>
      plaws_toTermS_L1 k rlaws_toTerm rlaws_toTermS a134_ m (a135_.set ((b136_).toNat) c139_) (wr.i64 (b136_ + 1))
    else
      some (.done a135_)
mutual
/-- laws.toTerm -/
def plaws_toTerm : Nat → GTerm → Option GTerm
  | 0, _ => none
  | k + 1, c132_ =>
    (plaws_toTermS k c132_.gKids).bind fun f133_ =>
    some (GTerm.mk c132_.gKind c132_.gName c132_.gNum f133_)
/-- laws.toTermS -/
def plaws_toTermS : Nat → (List GTerm) → Option (List GTerm)
  | 0, _ => none
  | k + 1, a134_ =>
    if 0 ≤ (a134_.length : Int) ∧ (a134_.length : Int) ≤ 1073741824 then
      (plaws_toTermS_L1 k (plaws_toTerm k) (plaws_toTermS k) a134_ k (List.replicate ((a134_.length : Int)).toNat (GTerm.mk 0 (bs []) 0 [])) 0).bind fun out1 => match out1 with
      | .ret r => some r
      | .done a137_ =>
        some a137_
    else none
end
theorem all_plaws_toTerm : ∀ k : Nat, (∀ {c132_ : GTerm} {r : GTerm}, plaws_toTerm k c132_ = some r → FnO Try.prog 18 [.v (.agg [.int .i64 c132_.gKind, .str c132_.gName, .int .i64 c132_.gNum, .sl (List.map GTerm.c c132_.gKids)]) []] (.v (.agg [.int .i64 r.gKind, .str r.gName, .int .i64 r.gNum, .sl (List.map GTerm.c r.gKids)]) []) []) ∧
    (∀ {a134_ : List GTerm} {r : (List GTerm)}, plaws_toTermS k a134_ = some r → FnO Try.prog 55 [.v (.sl (List.map GTerm.c a134_)) []] (.v (.sl (List.map GTerm.c r)) []) []) := by
  intro k
  induction k with
  | zero =>
    refine ⟨?_, ?_⟩
    · intro c132_ r h
      exact (onone (by rw [plaws_toTerm] at h; exact h)).elim
    · intro a134_ r h
      exact (onone (by rw [plaws_toTermS] at h; exact h)).elim
  | succ k ih =>
    obtain ⟨ih_plaws_toTerm, ih_plaws_toTermS⟩ := ih
    refine ⟨?_, ?_⟩
    · intro c132_ r h
      rw [plaws_toTerm] at h
      refine FnO.of Try.func18 (rfl : Try.f18.body = some _) (Nat.le_of_ble_eq_true (by kernel_rfl)) (Nat.le_of_ble_eq_true (by kernel_rfl)) ?_
      intro w0 X0 Fin pv0 pb
      refine Wc.seq ?_
      refine Wc.region [] [] [1, 2] [1, 2] [] ⟨[(1, (.ptr 1 0, [])), (2, (.ptr 2 0, []))], [(1, .cells [.int .i64 c132_.gKind, .str c132_.gName, .int .i64 c132_.gNum, .sl (List.map GTerm.c c132_.gKids)] []), (2, .cells [.int .i64 0, .str (bs []), .int .i64 0, .sl (List.map GTerm.c [])] [(3, .app 37)])], []⟩ _ (by kernel_rfl) .nil ?_
      refine Wc.seq ?_
      refine Wc.region [] [] [1, 2, 3] [1, 2, 3] [] ⟨[(1, (.ptr 1 0, [])), (2, (.ptr 2 0, [])), (3, (.ptr 3 0, []))], [(1, .cells [.int .i64 c132_.gKind, .str c132_.gName, .int .i64 c132_.gNum, .sl (List.map GTerm.c c132_.gKids)] []), (2, .cells [.int .i64 0, .str (bs []), .int .i64 0, .sl (List.map GTerm.c [])] [(3, .app 37)]), (3, .cells [.int .i64 0, .str (bs []), .int .i64 0, .sl (List.map GTerm.c [])] [(3, .app 37)])], []⟩ _ (by kernel_rfl) .nil ?_
      refine Wc.seq ?_
      refine Wc.region [] [] [1, 2, 3] [1, 2, 3] [] ⟨[(1, (.ptr 1 0, [])), (2, (.ptr 2 0, [])), (3, (.ptr 3 0, []))], [(1, .cells [.int .i64 c132_.gKind, .str c132_.gName, .int .i64 c132_.gNum, .sl (List.map GTerm.c c132_.gKids)] []), (2, .cells [.int .i64 0, .str (bs []), .int .i64 0, .sl (List.map GTerm.c [])] [(3, .app 37)]), (3, .cells [.int .i64 c132_.gKind, .str (bs []), .int .i64 0, .sl (List.map GTerm.c [])] [(3, .app 37)])], []⟩ _ (by kernel_rfl) .nil ?_
      refine Wc.seq ?_
      refine Wc.region [] [] [1, 2, 3] [1, 2, 3] [] ⟨[(1, (.ptr 1 0, [])), (2, (.ptr 2 0, [])), (3, (.ptr 3 0, []))], [(1, .cells [.int .i64 c132_.gKind, .str c132_.gName, .int .i64 c132_.gNum, .sl (List.map GTerm.c c132_.gKids)] []), (2, .cells [.int .i64 0, .str (bs []), .int .i64 0, .sl (List.map GTerm.c [])] [(3, .app 37)]), (3, .cells [.int .i64 c132_.gKind, .str c132_.gName, .int .i64 0, .sl (List.map GTerm.c [])] [(3, .app 37)])], []⟩ _ (by kernel_rfl) .nil ?_
      refine Wc.seq ?_
      refine Wc.region [] [] [1, 2, 3] [1, 2, 3] [] ⟨[(1, (.ptr 1 0, [])), (2, (.ptr 2 0, [])), (3, (.ptr 3 0, []))], [(1, .cells [.int .i64 c132_.gKind, .str c132_.gName, .int .i64 c132_.gNum, .sl (List.map GTerm.c c132_.gKids)] []), (2, .cells [.int .i64 0, .str (bs []), .int .i64 0, .sl (List.map GTerm.c [])] [(3, .app 37)]), (3, .cells [.int .i64 c132_.gKind, .str c132_.gName, .int .i64 c132_.gNum, .sl (List.map GTerm.c [])] [(3, .app 37)])], []⟩ _ (by kernel_rfl) .nil ?_
      refine Wc.seq ?_
      obtain ⟨f133_, h129, h⟩ := obind h
      refine Wc.region [{}, {}, { r := some (.v (.sl (List.map GTerm.c f133_)) []) }] [] [2, 3] [2, 3] [] ⟨[(2, (.ptr 2 0, [])), (3, (.ptr 3 0, []))], [(2, .cells [.int .i64 0, .str (bs []), .int .i64 0, .sl (List.map GTerm.c [])] [(3, .app 37)]), (3, .cells [.int .i64 c132_.gKind, .str c132_.gName, .int .i64 c132_.gNum, .sl (List.map GTerm.c f133_)] [])], []⟩ _ (by kernel_rfl) (.cons (ih_plaws_toTermS h129) .nil) ?_
      refine Wc.seq ?_
      refine Wc.region [] [] [2] [2] [] ⟨[(2, (.ptr 2 0, []))], [(2, .cells [.int .i64 c132_.gKind, .str c132_.gName, .int .i64 c132_.gNum, .sl (List.map GTerm.c f133_)] [])], []⟩ _ (by kernel_rfl) .nil ?_
      refine Wc.ret ?_
      obtain rfl := Option.some.inj h
      exact ⟨.inl rfl, by kernel_rfl, by kernel_rfl⟩
    · intro a134_ r h
      rw [plaws_toTermS] at h
      refine FnO.of Try.func55 (rfl : Try.f55.body = some _) (Nat.le_of_ble_eq_true (by kernel_rfl)) (Nat.le_of_ble_eq_true (by kernel_rfl)) ?_
      intro w0 X0 Fin pv0 pb
      refine Wc.seq ?_
      refine Wc.region [] [] [0] [] [] ⟨[(0, (.v (.sl (List.map GTerm.c a134_)), []))], [], []⟩ _ (by kernel_rfl) .nil ?_
      refine Wc.seq ?_
      obtain ⟨h130, h⟩ := oguard h
      refine Wc.region [{}, { v := some (.int .i64 (a134_.length : Int)) }, { c := some (List.map GTerm.c (List.replicate ((a134_.length : Int)).toNat (GTerm.mk 0 (bs []) 0 []))) }, { tk := [7], fx := [.ag (.t 7 0)] }] [] [0, 3] [] [] ⟨[(0, (.v (.sl (List.map GTerm.c a134_)), [])), (3, (.v (.slx), [(0, .ex 37 false (List.map GTerm.c (List.replicate ((a134_.length : Int)).toNat (GTerm.mk 0 (bs []) 0 []))))]))], [], []⟩ _ (by kernel_rfl) (.cons (len_obl GTerm.c a134_) (.cons (rep_re (c := GTerm.c) (z := (GTerm.mk 0 (bs []) 0 [])) (GTerm.c_eq (GTerm.mk 0 (bs []) 0 [])) ((a134_.length : Int)).toNat) (.cons (ms_obl h130) .nil))) ?_
      refine Wc.seq ?_
      refine Wc.seq ?_
      refine Wc.region [] [] [0, 3, 4] [] [] ⟨[(0, (.v (.sl (List.map GTerm.c a134_)), [])), (3, (.v (.slx), [(0, .ex 37 false (List.map GTerm.c (List.replicate ((a134_.length : Int)).toNat (GTerm.mk 0 (bs []) 0 []))))])), (4, (.v (.int .i64 0), []))], [], []⟩ _ (by kernel_rfl) .nil ?_
      obtain ⟨out1, h131, h⟩ := obind h
      refine Wc.lastJ (fun st => ∃ (a137_ : List GTerm), out1 = .done a137_ ∧ st = ⟨[(3, (.v (.slx), [(0, .ex 37 false (List.map GTerm.c a137_))]))], [], []⟩) ?_ ?_
      · refine Wc.block ?_
        refine Wc.loop (fun m st => ∃ (a135_ : List GTerm) (b136_ : Int), st = ⟨[(0, (.v (.sl (List.map GTerm.c a134_)), [])), (3, (.v (.slx), [(0, .ex 37 false (List.map GTerm.c a135_))])), (4, (.v (.int .i64 b136_), []))], [], []⟩ ∧ plaws_toTermS_L1 k (plaws_toTerm k) (plaws_toTermS k) a134_ m a135_ b136_ = some out1) ?_ k ⟨_, _, rfl, h131⟩
        rintro m st ⟨a135_, b136_, rfl, h131⟩
        cases m with
        | zero => exact (onone h131).elim
        | succ m =>
          refine Wc.seq ?_
          refine Wc.seq ?_
          refine Wc.region [{}, {}, { v := some (.int .i64 (a134_.length : Int)) }] [] [0, 3, 4, 11] [] [] ⟨[(0, (.v (.sl (List.map GTerm.c a134_)), [])), (3, (.v (.slx), [(0, .ex 37 false (List.map GTerm.c a135_))])), (4, (.v (.int .i64 b136_), [])), (11, (.v (.bool (decide (b136_ < (a134_.length : Int)))), []))], [], []⟩ _ (by kernel_rfl) (.cons (len_obl GTerm.c a134_) .nil) ?_
          rcases oif h131 with ⟨h132, h131⟩ | ⟨h132, h131⟩
          · refine Wc.condT h132 (by kernel_rfl) ?_
            refine Wc.fix (st' := ⟨[(0, (.v (.sl (List.map GTerm.c a134_)), [])), (3, (.v (.slx), [(0, .ex 37 false (List.map GTerm.c a135_))])), (4, (.v (.int .i64 b136_), []))], [], []⟩) [] [0, 3, 4] [] [] (by kernel_rfl) ?_
            refine Wc.skip ?_
            refine Wc.seq ?_
            refine Wc.block ?_
            obtain ⟨c138_, h133, h131⟩ := obind h131
            obtain ⟨c139_, h134, h131⟩ := obind h131
            obtain ⟨c140_, h135, h131⟩ := obind h131
            refine Wc.region [{}, {}, {}, {}, { v := some (.vptr [.int .i64 c138_.gKind, .str c138_.gName, .int .i64 c138_.gNum, .sl (List.map GTerm.c c138_.gKids)]) }, {}, { r := some (.v (.agg [.int .i64 c139_.gKind, .str c139_.gName, .int .i64 c139_.gNum, .sl (List.map GTerm.c c139_.gKids)]) []) }, {}, { c := some (List.map GTerm.c (a135_.set ((b136_).toNat) c139_)) }] [] [0, 3, 4] [] [] ⟨[(0, (.v (.sl (List.map GTerm.c a134_)), [])), (3, (.v (.slx), [(0, .ex 37 false (List.map GTerm.c (a135_.set ((b136_).toNat) c139_)))])), (4, (.v (.int .i64 b136_), []))], [], []⟩ _ (by kernel_rfl) (.cons (at_obl (c := GTerm.c) (GTerm.c_eq c138_) GTerm.c_len h133) (.cons (len_ok 4 [.int .i64 c138_.gKind, .str c138_.gName, .int .i64 c138_.gNum, .sl (List.map GTerm.c c138_.gKids)]) (.cons (ih_plaws_toTerm h134) (.cons (ix_obl (c := GTerm.c) GTerm.c_len h135) (.cons (mod_obl (off := 0) (new := [.int .i64 c139_.gKind, .str c139_.gName, .int .i64 c139_.gNum, .sl (List.map GTerm.c c139_.gKids)]) (c := GTerm.c) (GTerm.c_eq c140_) (GTerm.c_eq c139_) (at'_spec h135).2 rfl) (.cons (st_obl (sz := 4) (off := 0) (s := 4) (c := GTerm.c) (GTerm.c_eq c140_) (at'_spec h135).2 rfl (Nat.le_of_ble_eq_true rfl)) .nil)))))) ?_
            refine Wc.region [] [] [0, 3, 4] [] [] ⟨[(0, (.v (.sl (List.map GTerm.c a134_)), [])), (3, (.v (.slx), [(0, .ex 37 false (List.map GTerm.c (a135_.set ((b136_).toNat) c139_)))])), (4, (.v (.int .i64 (wr.i64 (b136_ + 1))), []))], [], []⟩ _ (by kernel_rfl) .nil ?_
            exact ⟨_, Nat.lt_succ_self _, _, _, rfl, h131⟩
          · refine Wc.condF h132 (by kernel_rfl) ?_
            refine Wc.fix (st' := ⟨[(3, (.v (.slx), [(0, .ex 37 false (List.map GTerm.c a135_))]))], [], []⟩) [] [3] [] [] (by kernel_rfl) ?_
            refine Wc.exit ?_
            obtain rfl := Option.some.inj h131
            exact ⟨_, rfl, rfl⟩
      · rintro st ⟨a137_, rfl, rfl⟩
        refine Wc.seq ?_
        refine Wc.region [{ tk := [3] }, { tk := [22] }] [] [2] [] [] ⟨[(2, (.v (.slx), [(0, .ex 37 false (List.map GTerm.c a137_))]))], [], []⟩ _ (by kernel_rfl) .nil ?_
        refine Wc.fix (st' := ⟨[(2, (.v (.sl (List.map GTerm.c a137_)), []))], [], []⟩) [.sh (.t 2 0)] [2] [] [] (by kernel_rfl) ?_
        refine Wc.ret ?_
        obtain rfl := Option.some.inj h
        exact ⟨.inl rfl, by kernel_rfl, by kernel_rfl⟩
theorem claws_toTerm {k : Nat} {c132_ : GTerm} {r : GTerm} (h : plaws_toTerm k c132_ = some r) : FnO Try.prog 18 [.v (.agg [.int .i64 c132_.gKind, .str c132_.gName, .int .i64 c132_.gNum, .sl (List.map GTerm.c c132_.gKids)]) []] (.v (.agg [.int .i64 r.gKind, .str r.gName, .int .i64 r.gNum, .sl (List.map GTerm.c r.gKids)]) []) [] := (all_plaws_toTerm k).1 h
theorem claws_toTermS {k : Nat} {a134_ : List GTerm} {r : (List GTerm)} (h : plaws_toTermS k a134_ = some r) : FnO Try.prog 55 [.v (.sl (List.map GTerm.c a134_)) []] (.v (.sl (List.map GTerm.c r)) []) [] := (all_plaws_toTerm k).2 h

/-- impl.copyTerm$1 -/
def pimpl_copyTerm_1 (k : Nat) (b141_ : Int) : Option Int :=
  some b141_
theorem cimpl_copyTerm_1 {k : Nat} {b141_ : Int} {r : Int} (h : pimpl_copyTerm_1 k b141_ = some r) : FnO Try.prog 98 [.v (.int .i64 b141_) []] (.v (.int .i64 r) []) [] := by
  refine FnO.of Try.func98 (rfl : Try.f98.body = some _) (Nat.le_of_ble_eq_true (by kernel_rfl)) (Nat.le_of_ble_eq_true (by kernel_rfl)) ?_
  intro w0 X0 Fin pv0 pb
  unfold pimpl_copyTerm_1 at h
  refine Wc.seq ?_
  refine Wc.region [] [] [0] [] [] ⟨[(0, (.v (.int .i64 b141_), []))], [], []⟩ _ (by kernel_rfl) .nil ?_
  refine Wc.seq ?_
  refine Wc.region [] [] [2] [] [] ⟨[(2, (.v (.int .i64 b141_), []))], [], []⟩ _ (by kernel_rfl) .nil ?_
  refine Wc.ret ?_
  obtain rfl := Option.some.inj h
  exact ⟨.inl rfl, by kernel_rfl, by kernel_rfl⟩

def pimpl_renamed_on1_pimpl_copyTerm_1_L2 (k : Nat) (rimpl_renamed_on1_pimpl_copyTerm_1 : GTerm → Option GTerm) (c151_ : GTerm) : Nat → Int → GTerm → Option (Out GTerm GTerm)
  | 0, _, _ => none
  | m + 1, b153_, c154_ =>
    if (decide (b153_ < (c151_.gKids.length : Int))) = true then
      (at' c151_.gKids b153_).bind fun c156_ =>
      (rimpl_renamed_on1_pimpl_copyTerm_1 c156_).bind fun c157_ =>
      if c154_.gKids.length + [c157_].length ≤ 1073741824 then
        pimpl_renamed_on1_pimpl_copyTerm_1_L2 k rimpl_renamed_on1_pimpl_copyTerm_1 c151_ m (wr.i64 (b153_ + 1)) (GTerm.mk c154_.gKind c154_.gName c154_.gNum (c154_.gKids ++ [c157_]))
      else none
    else
      some (.done c154_)
def pimpl_renamed_on1_pimpl_copyTerm_1_J1 (k : Nat) (rimpl_renamed_on1_pimpl_copyTerm_1 : GTerm → Option GTerm) (c151_ : GTerm) (c152_ : GTerm) : Option GTerm :=
  (pimpl_renamed_on1_pimpl_copyTerm_1_L2 k rimpl_renamed_on1_pimpl_copyTerm_1 c151_ k 0 c152_).bind fun out2 => match out2 with
  | .ret r => some r
  | .done c155_ =>
    some c155_
mutual
/-- impl.renamed -/
def pimpl_renamed_on1_pimpl_copyTerm_1 : Nat → GTerm → Option GTerm
  | 0, _ => none
  | k + 1, c151_ =>
    if (c151_.gKind == 1) = true then
      (pimpl_copyTerm_1 k c151_.gNum).bind fun b158_ =>
      pimpl_renamed_on1_pimpl_copyTerm_1_J1 k (pimpl_renamed_on1_pimpl_copyTerm_1 k) c151_ (GTerm.mk c151_.gKind c151_.gName b158_ [])
    else
      pimpl_renamed_on1_pimpl_copyTerm_1_J1 k (pimpl_renamed_on1_pimpl_copyTerm_1 k) c151_ (GTerm.mk c151_.gKind c151_.gName c151_.gNum [])
end
theorem all_pimpl_renamed_on1_pimpl_copyTerm_1 : ∀ k : Nat, (∀ {c151_ : GTerm} {r : GTerm}, pimpl_renamed_on1_pimpl_copyTerm_1 k c151_ = some r → FnO Try.prog 97 [.v (.agg [.int .i64 c151_.gKind, .str c151_.gName, .int .i64 c151_.gNum, .sl (List.map GTerm.c c151_.gKids)]) [], .v (.func 98 []) []] (.v (.agg [.int .i64 r.gKind, .str r.gName, .int .i64 r.gNum, .sl (List.map GTerm.c r.gKids)]) [(3, .app 37)]) []) := by
  intro k
  induction k with
  | zero =>
    · intro c151_ r h
      exact (onone (by rw [pimpl_renamed_on1_pimpl_copyTerm_1] at h; exact h)).elim
  | succ k ih =>
    have ih_pimpl_renamed_on1_pimpl_copyTerm_1 := @ih
    · intro c151_ r h
      rw [pimpl_renamed_on1_pimpl_copyTerm_1] at h
      refine FnO.of Try.func97 (rfl : Try.f97.body = some _) (Nat.le_of_ble_eq_true (by kernel_rfl)) (Nat.le_of_ble_eq_true (by kernel_rfl)) ?_
      intro w0 X0 Fin pv0 pb
      refine Wc.seq ?_
      refine Wc.region [] [] [1, 2, 4] [2, 4] [] ⟨[(1, (.v (.func 98 []), [])), (2, (.ptr 2 0, [])), (4, (.ptr 4 0, []))], [(2, .cells [.int .i64 c151_.gKind, .str c151_.gName, .int .i64 c151_.gNum, .sl (List.map GTerm.c c151_.gKids)] []), (4, .cells [.int .i64 0, .str (bs []), .int .i64 0, .sl (List.map GTerm.c [])] [(3, .app 37)])], []⟩ _ (by kernel_rfl) .nil ?_
      refine Wc.seq ?_
      refine Wc.region [] [] [1, 2, 4, 5] [2, 4, 5] [] ⟨[(1, (.v (.func 98 []), [])), (2, (.ptr 2 0, [])), (4, (.ptr 4 0, [])), (5, (.ptr 5 0, []))], [(2, .cells [.int .i64 c151_.gKind, .str c151_.gName, .int .i64 c151_.gNum, .sl (List.map GTerm.c c151_.gKids)] []), (4, .cells [.int .i64 0, .str (bs []), .int .i64 0, .sl (List.map GTerm.c [])] [(3, .app 37)]), (5, .cells [.int .i64 c151_.gKind, .str c151_.gName, .int .i64 c151_.gNum, .sl (List.map GTerm.c c151_.gKids)] [])], []⟩ _ (by kernel_rfl) .nil ?_
      refine Wc.seq ?_
      refine Wc.region [] [] [1, 2, 4, 5] [2, 4, 5] [] ⟨[(1, (.v (.func 98 []), [])), (2, (.ptr 2 0, [])), (4, (.ptr 4 0, [])), (5, (.ptr 5 0, []))], [(2, .cells [.int .i64 c151_.gKind, .str c151_.gName, .int .i64 c151_.gNum, .sl (List.map GTerm.c c151_.gKids)] []), (4, .cells [.int .i64 0, .str (bs []), .int .i64 0, .sl (List.map GTerm.c [])] [(3, .app 37)]), (5, .cells [.int .i64 c151_.gKind, .str c151_.gName, .int .i64 c151_.gNum, .sl (List.map GTerm.c [])] [(3, .app 37)])], []⟩ _ (by kernel_rfl) .nil ?_
      refine Wc.seqJ (fun st => ∃ (c152_ : GTerm), st = ⟨[(1, (.v (.func 98 []), [])), (2, (.ptr 2 0, [])), (4, (.ptr 4 0, [])), (5, (.ptr 5 0, []))], [(2, .cells [.int .i64 c151_.gKind, .str c151_.gName, .int .i64 c151_.gNum, .sl (List.map GTerm.c c151_.gKids)] []), (4, .cells [.int .i64 0, .str (bs []), .int .i64 0, .sl (List.map GTerm.c [])] [(3, .app 37)]), (5, .cells [.int .i64 c152_.gKind, .str c152_.gName, .int .i64 c152_.gNum, .sl (List.map GTerm.c c152_.gKids)] [(3, .app 37)])], []⟩ ∧ pimpl_renamed_on1_pimpl_copyTerm_1_J1 k (pimpl_renamed_on1_pimpl_copyTerm_1 k) c151_ c152_ = some r) ?_ ?_
      · refine Wc.seq ?_
        refine Wc.region [] [] [1, 2, 4, 5, 12] [2, 4, 5] [] ⟨[(1, (.v (.func 98 []), [])), (2, (.ptr 2 0, [])), (4, (.ptr 4 0, [])), (5, (.ptr 5 0, [])), (12, (.v (.bool (c151_.gKind == 1)), []))], [(2, .cells [.int .i64 c151_.gKind, .str c151_.gName, .int .i64 c151_.gNum, .sl (List.map GTerm.c c151_.gKids)] []), (4, .cells [.int .i64 0, .str (bs []), .int .i64 0, .sl (List.map GTerm.c [])] [(3, .app 37)]), (5, .cells [.int .i64 c151_.gKind, .str c151_.gName, .int .i64 c151_.gNum, .sl (List.map GTerm.c [])] [(3, .app 37)])], []⟩ _ (by kernel_rfl) .nil ?_
        rcases oif h with ⟨h148, h⟩ | ⟨h148, h⟩
        · refine Wc.condT h148 (by kernel_rfl) ?_
          obtain ⟨b158_, h149, h⟩ := obind h
          refine Wc.region [{}, {}, {}, { r := some (.v (.int .i64 b158_) []) }] [] [1, 2, 4, 5] [2, 4, 5] [] ⟨[(1, (.v (.func 98 []), [])), (2, (.ptr 2 0, [])), (4, (.ptr 4 0, [])), (5, (.ptr 5 0, []))], [(2, .cells [.int .i64 c151_.gKind, .str c151_.gName, .int .i64 c151_.gNum, .sl (List.map GTerm.c c151_.gKids)] []), (4, .cells [.int .i64 0, .str (bs []), .int .i64 0, .sl (List.map GTerm.c [])] [(3, .app 37)]), (5, .cells [.int .i64 c151_.gKind, .str c151_.gName, .int .i64 b158_, .sl (List.map GTerm.c [])] [(3, .app 37)])], []⟩ _ (by kernel_rfl) (.cons (cimpl_copyTerm_1 h149) .nil) ?_
          exact ⟨_, rfl, h⟩
        · refine Wc.condF h148 (by kernel_rfl) ?_
          refine Wc.fix (st' := ⟨[(1, (.v (.func 98 []), [])), (2, (.ptr 2 0, [])), (4, (.ptr 4 0, [])), (5, (.ptr 5 0, []))], [(2, .cells [.int .i64 c151_.gKind, .str c151_.gName, .int .i64 c151_.gNum, .sl (List.map GTerm.c c151_.gKids)] []), (4, .cells [.int .i64 0, .str (bs []), .int .i64 0, .sl (List.map GTerm.c [])] [(3, .app 37)]), (5, .cells [.int .i64 c151_.gKind, .str c151_.gName, .int .i64 c151_.gNum, .sl (List.map GTerm.c [])] [(3, .app 37)])], []⟩) [] [1, 2, 4, 5] [2, 4, 5] [] (by kernel_rfl) ?_
          refine Wc.skip ?_
          exact ⟨_, rfl, h⟩
      · rintro st ⟨c152_, rfl, h⟩
        refine Wc.seq ?_
        refine Wc.seq ?_
        refine Wc.region [{}, {}, { v := some (.int .i64 (c151_.gKids.length : Int)) }] [] [1, 4, 5, 19, 20, 21] [4, 5] [] ⟨[(1, (.v (.func 98 []), [])), (4, (.ptr 4 0, [])), (5, (.ptr 5 0, [])), (19, (.v (.sl (List.map GTerm.c c151_.gKids)), [])), (20, (.v (.int .i64 (c151_.gKids.length : Int)), [])), (21, (.v (.int .i64 0), []))], [(4, .cells [.int .i64 0, .str (bs []), .int .i64 0, .sl (List.map GTerm.c [])] [(3, .app 37)]), (5, .cells [.int .i64 c152_.gKind, .str c152_.gName, .int .i64 c152_.gNum, .sl (List.map GTerm.c c152_.gKids)] [(3, .app 37)])], []⟩ _ (by kernel_rfl) (.cons (len_obl GTerm.c c151_.gKids) .nil) ?_
        obtain ⟨out2, h143, h⟩ := obind h
        refine Wc.lastJ (fun st => ∃ (c155_ : GTerm), out2 = .done c155_ ∧ st = ⟨[(4, (.ptr 4 0, [])), (5, (.ptr 5 0, []))], [(4, .cells [.int .i64 0, .str (bs []), .int .i64 0, .sl (List.map GTerm.c [])] [(3, .app 37)]), (5, .cells [.int .i64 c155_.gKind, .str c155_.gName, .int .i64 c155_.gNum, .sl (List.map GTerm.c c155_.gKids)] [(3, .app 37)])], []⟩) ?_ ?_
        · refine Wc.block ?_
          refine Wc.loop (fun m st => ∃ (b153_ : Int) (c154_ : GTerm), st = ⟨[(1, (.v (.func 98 []), [])), (4, (.ptr 4 0, [])), (5, (.ptr 5 0, [])), (19, (.v (.sl (List.map GTerm.c c151_.gKids)), [])), (20, (.v (.int .i64 (c151_.gKids.length : Int)), [])), (21, (.v (.int .i64 b153_), []))], [(4, .cells [.int .i64 0, .str (bs []), .int .i64 0, .sl (List.map GTerm.c [])] [(3, .app 37)]), (5, .cells [.int .i64 c154_.gKind, .str c154_.gName, .int .i64 c154_.gNum, .sl (List.map GTerm.c c154_.gKids)] [(3, .app 37)])], []⟩ ∧ pimpl_renamed_on1_pimpl_copyTerm_1_L2 k (pimpl_renamed_on1_pimpl_copyTerm_1 k) c151_ m b153_ c154_ = some out2) ?_ k ⟨_, _, rfl, h143⟩
          rintro m st ⟨b153_, c154_, rfl, h143⟩
          cases m with
          | zero => exact (onone h143).elim
          | succ m =>
            refine Wc.seq ?_
            refine Wc.region [] [] [1, 4, 5, 19, 20, 21, 22] [4, 5] [] ⟨[(1, (.v (.func 98 []), [])), (4, (.ptr 4 0, [])), (5, (.ptr 5 0, [])), (19, (.v (.sl (List.map GTerm.c c151_.gKids)), [])), (20, (.v (.int .i64 (c151_.gKids.length : Int)), [])), (21, (.v (.int .i64 b153_), [])), (22, (.v (.bool (decide (b153_ < (c151_.gKids.length : Int)))), []))], [(4, .cells [.int .i64 0, .str (bs []), .int .i64 0, .sl (List.map GTerm.c [])] [(3, .app 37)]), (5, .cells [.int .i64 c154_.gKind, .str c154_.gName, .int .i64 c154_.gNum, .sl (List.map GTerm.c c154_.gKids)] [(3, .app 37)])], []⟩ _ (by kernel_rfl) .nil ?_
            refine Wc.seq ?_
            rcases oif h143 with ⟨h144, h143⟩ | ⟨h144, h143⟩
            · refine Wc.condT h144 (by kernel_rfl) ?_
              refine Wc.fix (st' := ⟨[(1, (.v (.func 98 []), [])), (4, (.ptr 4 0, [])), (5, (.ptr 5 0, [])), (19, (.v (.sl (List.map GTerm.c c151_.gKids)), [])), (20, (.v (.int .i64 (c151_.gKids.length : Int)), [])), (21, (.v (.int .i64 b153_), []))], [(4, .cells [.int .i64 0, .str (bs []), .int .i64 0, .sl (List.map GTerm.c [])] [(3, .app 37)]), (5, .cells [.int .i64 c154_.gKind, .str c154_.gName, .int .i64 c154_.gNum, .sl (List.map GTerm.c c154_.gKids)] [(3, .app 37)])], []⟩) [] [1, 4, 5, 19, 20, 21] [4, 5] [] (by kernel_rfl) ?_
              refine Wc.skip ?_
              refine Wc.seq ?_
              refine Wc.block ?_
              refine Wc.seq ?_
              obtain ⟨c156_, h145, h143⟩ := obind h143
              refine Wc.region [{ v := some (.vptr [.int .i64 c156_.gKind, .str c156_.gName, .int .i64 c156_.gNum, .sl (List.map GTerm.c c156_.gKids)]) }] [] [1, 4, 5, 7, 19, 20, 21] [4, 5, 7] [] ⟨[(1, (.v (.func 98 []), [])), (4, (.ptr 4 0, [])), (5, (.ptr 5 0, [])), (7, (.ptr 7 0, [])), (19, (.v (.sl (List.map GTerm.c c151_.gKids)), [])), (20, (.v (.int .i64 (c151_.gKids.length : Int)), [])), (21, (.v (.int .i64 b153_), []))], [(4, .cells [.int .i64 0, .str (bs []), .int .i64 0, .sl (List.map GTerm.c [])] [(3, .app 37)]), (5, .cells [.int .i64 c154_.gKind, .str c154_.gName, .int .i64 c154_.gNum, .sl (List.map GTerm.c c154_.gKids)] [(3, .app 37)]), (7, .cells [.int .i64 c156_.gKind, .str c156_.gName, .int .i64 c156_.gNum, .sl (List.map GTerm.c c156_.gKids)] [])], []⟩ _ (by kernel_rfl) (.cons (at_obl (c := GTerm.c) (GTerm.c_eq c156_) GTerm.c_len h145) (.cons (len_ok 4 [.int .i64 c156_.gKind, .str c156_.gName, .int .i64 c156_.gNum, .sl (List.map GTerm.c c156_.gKids)]) .nil)) ?_
              obtain ⟨c157_, h146, h143⟩ := obind h143
              obtain ⟨h147, h143⟩ := oguard h143
              refine Wc.draw hmix [{}, { md := 1 }, {}, {}, { r := some (.v (.agg [.int .i64 c157_.gKind, .str c157_.gName, .int .i64 c157_.gNum, .sl (List.map GTerm.c c157_.gKids)]) [(3, .app 37)]) }, { c := some (List.map GTerm.c [c157_]) }, { c := some (List.map GTerm.c (c154_.gKids ++ [c157_])), tk := [26] }, {}, { tk := [31] }] [] [1, 4, 5, 19, 20, 21] [4, 5] [] ⟨[(1, (.v (.func 98 []), [])), (4, (.ptr 4 0, [])), (5, (.ptr 5 0, [])), (19, (.v (.sl (List.map GTerm.c c151_.gKids)), [])), (20, (.v (.int .i64 (c151_.gKids.length : Int)), [])), (21, (.v (.int .i64 b153_), []))], [(4, .cells [.int .i64 0, .str (bs []), .int .i64 0, .sl (List.map GTerm.c [])] [(3, .app 37)]), (5, .cells [.int .i64 c154_.gKind, .str c154_.gName, .int .i64 c154_.gNum, .sl (List.map GTerm.c (c154_.gKids ++ [c157_]))] [(3, .app 37)])], []⟩ _ (by kernel_rfl) (fun X => by kernel_rfl) (.cons (ih_pimpl_renamed_on1_pimpl_copyTerm_1 h146) (.cons (cl_cons (c := GTerm.c) (x := c157_) (GTerm.c_eq c157_) (cl_nil GTerm.c)) (.cons (app_re2 GTerm.c c154_.gKids [c157_]) (.cons (app_leaf (c := GTerm.c) (ys := [c157_]) GTerm.c_leaf) (.cons (app_obl2 (c := GTerm.c) (xs := c154_.gKids) (ys := [c157_]) GTerm.c_len h147) .nil))))) ?_
              refine Wc.region [] [] [1, 4, 5, 19, 20, 21] [4, 5] [] ⟨[(1, (.v (.func 98 []), [])), (4, (.ptr 4 0, [])), (5, (.ptr 5 0, [])), (19, (.v (.sl (List.map GTerm.c c151_.gKids)), [])), (20, (.v (.int .i64 (c151_.gKids.length : Int)), [])), (21, (.v (.int .i64 (wr.i64 (b153_ + 1))), []))], [(4, .cells [.int .i64 0, .str (bs []), .int .i64 0, .sl (List.map GTerm.c [])] [(3, .app 37)]), (5, .cells [.int .i64 c154_.gKind, .str c154_.gName, .int .i64 c154_.gNum, .sl (List.map GTerm.c (c154_.gKids ++ [c157_]))] [(3, .app 37)])], []⟩ _ (by kernel_rfl) .nil ?_
              exact ⟨_, Nat.lt_succ_self _, _, _, rfl, h143⟩
            · refine Wc.condF h144 (by kernel_rfl) ?_
              refine Wc.fix (st' := ⟨[(4, (.ptr 4 0, [])), (5, (.ptr 5 0, []))], [(4, .cells [.int .i64 0, .str (bs []), .int .i64 0, .sl (List.map GTerm.c [])] [(3, .app 37)]), (5, .cells [.int .i64 c154_.gKind, .str c154_.gName, .int .i64 c154_.gNum, .sl (List.map GTerm.c c154_.gKids)] [(3, .app 37)])], []⟩) [] [4, 5] [4, 5] [] (by kernel_rfl) ?_
              refine Wc.exit ?_
              obtain rfl := Option.some.inj h143
              exact ⟨_, rfl, rfl⟩
        · rintro st ⟨c155_, rfl, rfl⟩
          refine Wc.seq ?_
          refine Wc.region [{ md := 1 }, { tk := [34] }] [] [4] [4] [] ⟨[(4, (.ptr 4 0, []))], [(4, .cells [.int .i64 c155_.gKind, .str c155_.gName, .int .i64 c155_.gNum, .sl (List.map GTerm.c c155_.gKids)] [(3, .app 37)])], []⟩ _ (by kernel_rfl) .nil ?_
          refine Wc.ret ?_
          obtain rfl := Option.some.inj h
          exact ⟨.inl rfl, by kernel_rfl, by kernel_rfl⟩
theorem cimpl_renamed_on1_pimpl_copyTerm_1 {k : Nat} {c151_ : GTerm} {r : GTerm} (h : pimpl_renamed_on1_pimpl_copyTerm_1 k c151_ = some r) : FnO Try.prog 97 [.v (.agg [.int .i64 c151_.gKind, .str c151_.gName, .int .i64 c151_.gNum, .sl (List.map GTerm.c c151_.gKids)]) [], .v (.func 98 []) []] (.v (.agg [.int .i64 r.gKind, .str r.gName, .int .i64 r.gNum, .sl (List.map GTerm.c r.gKids)]) [(3, .app 37)]) [] := (all_pimpl_renamed_on1_pimpl_copyTerm_1 k) h

/-- impl.copyTerm -/
def pimpl_copyTerm (k : Nat) (c144_ : GTerm) : Option GTerm :=
  (pimpl_renamed_on1_pimpl_copyTerm_1 k c144_).bind fun c145_ =>
  some c145_
theorem cimpl_copyTerm {k : Nat} {c144_ : GTerm} {r : GTerm} (h : pimpl_copyTerm k c144_ = some r) : FnO Try.prog 58 [.v (.agg [.int .i64 c144_.gKind, .str c144_.gName, .int .i64 c144_.gNum, .sl (List.map GTerm.c c144_.gKids)]) []] (.v (.agg [.int .i64 r.gKind, .str r.gName, .int .i64 r.gNum, .sl (List.map GTerm.c r.gKids)]) [(3, .app 37)]) [] := by
  refine FnO.of Try.func58 (rfl : Try.f58.body = some _) (Nat.le_of_ble_eq_true (by kernel_rfl)) (Nat.le_of_ble_eq_true (by kernel_rfl)) ?_
  intro w0 X0 Fin pv0 pb
  unfold pimpl_copyTerm at h
  refine Wc.seq ?_
  refine Wc.region [] [] [1, 2] [1, 2] [] ⟨[(1, (.ptr 1 0, [])), (2, (.ptr 2 0, []))], [(1, .cells [.int .i64 c144_.gKind, .str c144_.gName, .int .i64 c144_.gNum, .sl (List.map GTerm.c c144_.gKids)] []), (2, .cells [.int .i64 0, .str (bs []), .int .i64 0, .sl (List.map GTerm.c [])] [(3, .app 37)])], []⟩ _ (by kernel_rfl) .nil ?_
  refine Wc.seq ?_
  obtain ⟨c145_, h137, h⟩ := obind h
  refine Wc.region [{}, { r := some (.v (.agg [.int .i64 c145_.gKind, .str c145_.gName, .int .i64 c145_.gNum, .sl (List.map GTerm.c c145_.gKids)]) [(3, .app 37)]) }, { tk := [4] }] [] [2] [2] [] ⟨[(2, (.ptr 2 0, []))], [(2, .cells [.int .i64 c145_.gKind, .str c145_.gName, .int .i64 c145_.gNum, .sl (List.map GTerm.c c145_.gKids)] [(3, .app 37)])], []⟩ _ (by kernel_rfl) (.cons (cimpl_renamed_on1_pimpl_copyTerm_1 h137) .nil) ?_
  refine Wc.ret ?_
  obtain rfl := Option.some.inj h
  exact ⟨.inl rfl, by kernel_rfl, by kernel_rfl⟩

/-- impl.within -/
def pimpl_within (k : Nat) (b146_ : Int) (b147_ : Int) (b148_ : Int) : Option Bool :=
  if (decide (b146_ ≥ b147_)) = true then
    some (decide (b146_ ≤ b148_))
  else
    some false
theorem cimpl_within {k : Nat} {b146_ : Int} {b147_ : Int} {b148_ : Int} {r : Bool} (h : pimpl_within k b146_ b147_ b148_ = some r) : FnO Try.prog 109 [.v (.int .i64 b146_) [], .v (.int .i64 b147_) [], .v (.int .i64 b148_) []] (.v (.bool r) []) [] := by
  refine FnO.of Try.func109 (rfl : Try.f109.body = some _) (Nat.le_of_ble_eq_true (by kernel_rfl)) (Nat.le_of_ble_eq_true (by kernel_rfl)) ?_
  intro w0 X0 Fin pv0 pb
  unfold pimpl_within at h
  refine Wc.seq ?_
  refine Wc.region [] [] [0, 1, 2] [] [] ⟨[(0, (.v (.int .i64 b146_), [])), (1, (.v (.int .i64 b147_), [])), (2, (.v (.int .i64 b148_), []))], [], []⟩ _ (by kernel_rfl) .nil ?_
  refine Wc.seq ?_
  rcases oif h with ⟨h138, h⟩ | ⟨h138, h⟩
  · refine Wc.region [{}, {}, {}, { re := some (.bool true) }] [] [6] [] [] ⟨[(6, (.v (.bool (decide (b146_ ≤ b148_))), []))], [], []⟩ _ (by kernel_rfl) (.cons (congrArg AV.bool h138) .nil) ?_
    refine Wc.ret ?_
    obtain rfl := Option.some.inj h
    exact ⟨.inl rfl, by kernel_rfl, by kernel_rfl⟩
  · refine Wc.region [{}, {}, {}, { re := some (.bool false) }] [] [6] [] [] ⟨[(6, (.v (.bool false), []))], [], []⟩ _ (by kernel_rfl) (.cons (congrArg AV.bool h138) .nil) ?_
    refine Wc.ret ?_
    obtain rfl := Option.some.inj h
    exact ⟨.inl rfl, by kernel_rfl, by kernel_rfl⟩

def pimpl_nameOk_L1 (k : Nat) (d149_ : ByteArray) : Nat → Int → Option (Out Bool Unit)
  | 0, _ => none
  | m + 1, b150_ =>
    if (decide (b150_ < (d149_.size : Int))) = true then
      if 0 ≤ b150_ ∧ (b150_).toNat < d149_.size then
        (pimpl_within k (wr.i64 (bt d149_ b150_)) 33 126).bind fun e151_ =>
        if (!e151_) = true then
          some (.ret false)
        else
          if 0 ≤ b150_ ∧ (b150_).toNat < d149_.size then
            if ((bt d149_ b150_) == 39) = true then
              some (.ret false)
            else
              if 0 ≤ b150_ ∧ (b150_).toNat < d149_.size then
                if ((bt d149_ b150_) == 34) = true then
                  some (.ret false)
                else
                  pimpl_nameOk_L1 k d149_ m (wr.i64 (b150_ + 1))
              else none
          else none
      else none
    else
      some (.done ())
/-- impl.nameOk -/
def pimpl_nameOk (k : Nat) (d149_ : ByteArray) : Option Bool :=
  (pimpl_nameOk_L1 k d149_ k 0).bind fun out1 => match out1 with
  | .ret r => some r
  | .done () =>
    (pimpl_within k (d149_.size : Int) 1 20).bind fun e152_ =>
    some e152_
theorem cimpl_nameOk {k : Nat} {d149_ : ByteArray} {r : Bool} (h : pimpl_nameOk k d149_ = some r) : FnO Try.prog 129 [.v (.str d149_) []] (.v (.bool r) []) [] := by
  refine FnO.of Try.func129 (rfl : Try.f129.body = some _) (Nat.le_of_ble_eq_true (by kernel_rfl)) (Nat.le_of_ble_eq_true (by kernel_rfl)) ?_
  intro w0 X0 Fin pv0 pb
  unfold pimpl_nameOk at h
  refine Wc.seq ?_
  refine Wc.region [] [] [0] [] [] ⟨[(0, (.v (.str d149_), []))], [], []⟩ _ (by kernel_rfl) .nil ?_
  refine Wc.seq ?_
  refine Wc.seq ?_
  refine Wc.region [] [] [0, 3] [] [] ⟨[(0, (.v (.str d149_), [])), (3, (.v (.int .i64 0), []))], [], []⟩ _ (by kernel_rfl) .nil ?_
  obtain ⟨out1, h139, h⟩ := obind h
  refine Wc.lastJ (fun st => out1 = .done () ∧ st = ⟨[(0, (.v (.str d149_), []))], [], []⟩) ?_ ?_
  · refine Wc.block ?_
    refine Wc.loop (fun m st => ∃ (b150_ : Int), st = ⟨[(0, (.v (.str d149_), [])), (3, (.v (.int .i64 b150_), []))], [], []⟩ ∧ pimpl_nameOk_L1 k d149_ m b150_ = some out1) ?_ k ⟨_, rfl, h139⟩
    rintro m st ⟨b150_, rfl, h139⟩
    cases m with
    | zero => exact (onone h139).elim
    | succ m =>
      refine Wc.seq ?_
      refine Wc.seq ?_
      refine Wc.region [] [] [0, 3, 7] [] [] ⟨[(0, (.v (.str d149_), [])), (3, (.v (.int .i64 b150_), [])), (7, (.v (.bool (decide (b150_ < (d149_.size : Int)))), []))], [], []⟩ _ (by kernel_rfl) .nil ?_
      rcases oif h139 with ⟨h140, h139⟩ | ⟨h140, h139⟩
      · refine Wc.condT h140 (by kernel_rfl) ?_
        refine Wc.fix (st' := ⟨[(0, (.v (.str d149_), [])), (3, (.v (.int .i64 b150_), []))], [], []⟩) [] [0, 3] [] [] (by kernel_rfl) ?_
        refine Wc.skip ?_
        refine Wc.seq ?_
        refine Wc.block ?_
        refine Wc.seq ?_
        obtain ⟨h141, h139⟩ := oguard h139
        obtain ⟨e151_, h142, h139⟩ := obind h139
        rcases oif h139 with ⟨h143, h139⟩ | ⟨h143, h139⟩
        · refine Wc.region [{}, {}, {}, {}, { r := some (.v (.bool e151_) []) }, {}, { re := some (.bool true) }] [] [0, 3, 27] [] [] ⟨[(0, (.v (.str d149_), [])), (3, (.v (.int .i64 b150_), [])), (27, (.v (.bool true), []))], [], []⟩ _ (by kernel_rfl) (.cons h141 (.cons (cimpl_within h142) (.cons (congrArg AV.bool h143) .nil))) ?_
          refine Wc.condT rfl (by kernel_rfl) ?_
          refine Wc.seq ?_
          refine Wc.region [] [] [2] [] [] ⟨[(2, (.v (.bool false), []))], [], []⟩ _ (by kernel_rfl) .nil ?_
          refine Wc.ret ?_
          obtain rfl := Option.some.inj h139
          obtain rfl := Option.some.inj h
          exact ⟨.inl rfl, by kernel_rfl, by kernel_rfl⟩
        · obtain ⟨h144, h139⟩ := oguard h139
          rcases oif h139 with ⟨h145, h139⟩ | ⟨h145, h139⟩
          · refine Wc.region [{}, {}, {}, {}, { r := some (.v (.bool e151_) []) }, {}, { re := some (.bool false) }, {}, {}, {}, {}, {}, { re := some (.bool true) }] [] [0, 3, 27] [] [] ⟨[(0, (.v (.str d149_), [])), (3, (.v (.int .i64 b150_), [])), (27, (.v (.bool true), []))], [], []⟩ _ (by kernel_rfl) (.cons h141 (.cons (cimpl_within h142) (.cons (congrArg AV.bool h143) (.cons h144 (.cons (congrArg AV.bool h145) .nil))))) ?_
            refine Wc.condT rfl (by kernel_rfl) ?_
            refine Wc.seq ?_
            refine Wc.region [] [] [2] [] [] ⟨[(2, (.v (.bool false), []))], [], []⟩ _ (by kernel_rfl) .nil ?_
            refine Wc.ret ?_
            obtain rfl := Option.some.inj h139
            obtain rfl := Option.some.inj h
            exact ⟨.inl rfl, by kernel_rfl, by kernel_rfl⟩
          · obtain ⟨h146, h139⟩ := oguard h139
            refine Wc.region [{}, {}, {}, {}, { r := some (.v (.bool e151_) []) }, {}, { re := some (.bool false) }, {}, {}, {}, {}, {}, { re := some (.bool false) }] [] [0, 3, 27] [] [] ⟨[(0, (.v (.str d149_), [])), (3, (.v (.int .i64 b150_), [])), (27, (.v (.bool ((bt d149_ b150_) == 34)), []))], [], []⟩ _ (by kernel_rfl) (.cons h141 (.cons (cimpl_within h142) (.cons (congrArg AV.bool h143) (.cons h144 (.cons (congrArg AV.bool h145) (.cons h146 .nil)))))) ?_
            rcases oif h139 with ⟨h147, h139⟩ | ⟨h147, h139⟩
            · refine Wc.condT h147 (by kernel_rfl) ?_
              refine Wc.seq ?_
              refine Wc.region [] [] [2] [] [] ⟨[(2, (.v (.bool false), []))], [], []⟩ _ (by kernel_rfl) .nil ?_
              refine Wc.ret ?_
              obtain rfl := Option.some.inj h139
              obtain rfl := Option.some.inj h
              exact ⟨.inl rfl, by kernel_rfl, by kernel_rfl⟩
            · refine Wc.condF h147 (by kernel_rfl) ?_
              refine Wc.fix (st' := ⟨[(0, (.v (.str d149_), [])), (3, (.v (.int .i64 b150_), []))], [], []⟩) [] [0, 3] [] [] (by kernel_rfl) ?_
              refine Wc.skip ?_
              refine Wc.region [] [] [0, 3] [] [] ⟨[(0, (.v (.str d149_), [])), (3, (.v (.int .i64 (wr.i64 (b150_ + 1))), []))], [], []⟩ _ (by kernel_rfl) .nil ?_
              exact ⟨_, Nat.lt_succ_self _, _, rfl, h139⟩
      · refine Wc.condF h140 (by kernel_rfl) ?_
        refine Wc.fix (st' := ⟨[(0, (.v (.str d149_), []))], [], []⟩) [] [0] [] [] (by kernel_rfl) ?_
        refine Wc.exit ?_
        obtain rfl := Option.some.inj h139
        exact ⟨rfl, rfl⟩
  · rintro st ⟨rfl, rfl⟩
    refine Wc.seq ?_
    obtain ⟨e152_, h148, h⟩ := obind h
    refine Wc.region [{}, {}, { r := some (.v (.bool e152_) []) }] [] [2] [] [] ⟨[(2, (.v (.bool e152_), []))], [], []⟩ _ (by kernel_rfl) (.cons (cimpl_within h148) .nil) ?_
    refine Wc.ret ?_
    obtain rfl := Option.some.inj h
    exact ⟨.inl rfl, by kernel_rfl, by kernel_rfl⟩

def pimpl_sized_L2 (k : Nat) (rimpl_sized : GTerm → Int → Option Int) (c153_ : GTerm) (b154_ : Int) : Nat → Int → Int → Option (Out Int Int)
  | 0, _, _ => none
  | m + 1, b155_, b156_ =>
    if (decide (b156_ < (c153_.gKids.length : Int))) = true then
      (at' c153_.gKids b156_).bind fun c158_ =>
      (rimpl_sized c158_ (wr.i64 (b154_ + 1))).bind fun b159_ =>
      if (decide ((wr.i64 (b155_ + b159_)) > 400)) = true then
        some (.ret 401)
      else
        pimpl_sized_L2 k rimpl_sized c153_ b154_ m (wr.i64 (b155_ + b159_)) (wr.i64 (b156_ + 1))
    else
      some (.done b155_)
def pimpl_sized_J1 (k : Nat) (rimpl_sized : GTerm → Int → Option Int) (c153_ : GTerm) (b154_ : Int) : Option Int :=
  (pimpl_sized_L2 k rimpl_sized c153_ b154_ k 1 0).bind fun out2 => match out2 with
  | .ret r => some r
  | .done b157_ =>
    some b157_
mutual
/-- impl.sized -/
def pimpl_sized : Nat → GTerm → Int → Option Int
  | 0, _, _ => none
  | k + 1, c153_, b154_ =>
    if (decide (b154_ > 40)) = true then
      some 401
    else
      if (c153_.gKind == 1) = true then
        if (!(sEq c153_.gName (bs []))) = true then
          some 401
        else
          (pimpl_within k c153_.gNum 0 99999).bind fun e160_ =>
          if (!e160_) = true then
            some 401
          else
            if (decide ((c153_.gKids.length : Int) > 0)) = true then
              some 401
            else
              pimpl_sized_J1 k (pimpl_sized k) c153_ b154_
      else
        if (c153_.gKind == 2) = true then
          (pimpl_nameOk k c153_.gName).bind fun e161_ =>
          if (!e161_) = true then
            some 401
          else
            if (c153_.gNum != 0) = true then
              some 401
            else
              if (decide ((c153_.gKids.length : Int) > 0)) = true then
                some 401
              else
                pimpl_sized_J1 k (pimpl_sized k) c153_ b154_
        else
          if (c153_.gKind == 3) = true then
            if (!(sEq c153_.gName (bs []))) = true then
              some 401
            else
              (pimpl_within k c153_.gNum (-999999999) 999999999).bind fun e162_ =>
              if (!e162_) = true then
                some 401
              else
                if (decide ((c153_.gKids.length : Int) > 0)) = true then
                  some 401
                else
                  pimpl_sized_J1 k (pimpl_sized k) c153_ b154_
          else
            if (c153_.gKind == 4) = true then
              (pimpl_nameOk k c153_.gName).bind fun e163_ =>
              if (!e163_) = true then
                some 401
              else
                if (c153_.gNum != 0) = true then
                  some 401
                else
                  (pimpl_within k (c153_.gKids.length : Int) 1 5).bind fun e164_ =>
                  if (!e164_) = true then
                    some 401
                  else
                    pimpl_sized_J1 k (pimpl_sized k) c153_ b154_
            else
              some 401
end
theorem all_pimpl_sized : ∀ k : Nat, (∀ {c153_ : GTerm} {b154_ : Int} {r : Int}, pimpl_sized k c153_ b154_ = some r → FnO Try.prog 99 [.v (.agg [.int .i64 c153_.gKind, .str c153_.gName, .int .i64 c153_.gNum, .sl (List.map GTerm.c c153_.gKids)]) [], .v (.int .i64 b154_) []] (.v (.int .i64 r) []) []) := by
  intro k
  induction k with
  | zero =>
    · intro c153_ b154_ r h
      exact (onone (by rw [pimpl_sized] at h; exact h)).elim
  | succ k ih =>
    have ih_pimpl_sized := @ih
    · intro c153_ b154_ r h
      rw [pimpl_sized] at h
      refine FnO.of Try.func99 (rfl : Try.f99.body = some _) (Nat.le_of_ble_eq_true (by kernel_rfl)) (Nat.le_of_ble_eq_true (by kernel_rfl)) ?_
      intro w0 X0 Fin pv0 pb
      refine Wc.seq ?_
      refine Wc.region [] [] [1, 2] [2] [] ⟨[(1, (.v (.int .i64 b154_), [])), (2, (.ptr 2 0, []))], [(2, .cells [.int .i64 c153_.gKind, .str c153_.gName, .int .i64 c153_.gNum, .sl (List.map GTerm.c c153_.gKids)] [])], []⟩ _ (by kernel_rfl) .nil ?_
      refine Wc.seq ?_
      refine Wc.seq ?_
      refine Wc.region [] [] [1, 2, 9] [2] [] ⟨[(1, (.v (.int .i64 b154_), [])), (2, (.ptr 2 0, [])), (9, (.v (.bool (decide (b154_ > 40))), []))], [(2, .cells [.int .i64 c153_.gKind, .str c153_.gName, .int .i64 c153_.gNum, .sl (List.map GTerm.c c153_.gKids)] [])], []⟩ _ (by kernel_rfl) .nil ?_
      rcases oif h with ⟨h149, h⟩ | ⟨h149, h⟩
      · refine Wc.condT h149 (by kernel_rfl) ?_
        refine Wc.seq ?_
        refine Wc.region [] [] [4] [] [] ⟨[(4, (.v (.int .i64 401), []))], [], []⟩ _ (by kernel_rfl) .nil ?_
        refine Wc.ret ?_
        obtain rfl := Option.some.inj h
        exact ⟨.inl rfl, by kernel_rfl, by kernel_rfl⟩
      · refine Wc.condF h149 (by kernel_rfl) ?_
        refine Wc.fix (st' := ⟨[(1, (.v (.int .i64 b154_), [])), (2, (.ptr 2 0, []))], [(2, .cells [.int .i64 c153_.gKind, .str c153_.gName, .int .i64 c153_.gNum, .sl (List.map GTerm.c c153_.gKids)] [])], []⟩) [] [1, 2] [2] [] (by kernel_rfl) ?_
        refine Wc.skip ?_
        refine Wc.seqJ (fun st => st = ⟨[(1, (.v (.int .i64 b154_), [])), (2, (.ptr 2 0, []))], [(2, .cells [.int .i64 c153_.gKind, .str c153_.gName, .int .i64 c153_.gNum, .sl (List.map GTerm.c c153_.gKids)] [])], []⟩ ∧ pimpl_sized_J1 k (pimpl_sized k) c153_ b154_ = some r) ?_ ?_
        · refine Wc.seq ?_
          refine Wc.region [] [] [1, 2, 11] [2] [] ⟨[(1, (.v (.int .i64 b154_), [])), (2, (.ptr 2 0, [])), (11, (.v (.int .i64 c153_.gKind), []))], [(2, .cells [.int .i64 c153_.gKind, .str c153_.gName, .int .i64 c153_.gNum, .sl (List.map GTerm.c c153_.gKids)] [])], []⟩ _ (by kernel_rfl) .nil ?_
          refine Wc.block ?_
          refine Wc.seq ?_
          refine Wc.region [] [] [1, 2, 11, 12] [2] [] ⟨[(1, (.v (.int .i64 b154_), [])), (2, (.ptr 2 0, [])), (11, (.v (.int .i64 c153_.gKind), [])), (12, (.v (.bool (c153_.gKind == 1)), []))], [(2, .cells [.int .i64 c153_.gKind, .str c153_.gName, .int .i64 c153_.gNum, .sl (List.map GTerm.c c153_.gKids)] [])], []⟩ _ (by kernel_rfl) .nil ?_
          rcases oif h with ⟨h155, h⟩ | ⟨h155, h⟩
          · refine Wc.condT h155 (by kernel_rfl) ?_
            refine Wc.seq ?_
            rcases oif h with ⟨h156, h⟩ | ⟨h156, h⟩
            · refine Wc.region [{}, {}, {}, { re := some (.bool true) }] [] [1, 2, 28] [2] [] ⟨[(1, (.v (.int .i64 b154_), [])), (2, (.ptr 2 0, [])), (28, (.v (.bool true), []))], [(2, .cells [.int .i64 c153_.gKind, .str c153_.gName, .int .i64 c153_.gNum, .sl (List.map GTerm.c c153_.gKids)] [])], []⟩ _ (by kernel_rfl) (.cons (congrArg AV.bool h156) .nil) ?_
              refine Wc.condT rfl (by kernel_rfl) ?_
              refine Wc.seq ?_
              refine Wc.region [] [] [4] [] [] ⟨[(4, (.v (.int .i64 401), []))], [], []⟩ _ (by kernel_rfl) .nil ?_
              refine Wc.ret ?_
              obtain rfl := Option.some.inj h
              exact ⟨.inl rfl, by kernel_rfl, by kernel_rfl⟩
            · obtain ⟨e160_, h157, h⟩ := obind h
              rcases oif h with ⟨h158, h⟩ | ⟨h158, h⟩
              · refine Wc.region [{}, {}, {}, { re := some (.bool false) }, {}, {}, { r := some (.v (.bool e160_) []) }, {}, {}, { re := some (.bool true) }] [] [1, 2, 28] [2] [] ⟨[(1, (.v (.int .i64 b154_), [])), (2, (.ptr 2 0, [])), (28, (.v (.bool true), []))], [(2, .cells [.int .i64 c153_.gKind, .str c153_.gName, .int .i64 c153_.gNum, .sl (List.map GTerm.c c153_.gKids)] [])], []⟩ _ (by kernel_rfl) (.cons (congrArg AV.bool h156) (.cons (cimpl_within h157) (.cons (congrArg AV.bool h158) .nil))) ?_
                refine Wc.condT rfl (by kernel_rfl) ?_
                refine Wc.seq ?_
                refine Wc.region [] [] [4] [] [] ⟨[(4, (.v (.int .i64 401), []))], [], []⟩ _ (by kernel_rfl) .nil ?_
                refine Wc.ret ?_
                obtain rfl := Option.some.inj h
                exact ⟨.inl rfl, by kernel_rfl, by kernel_rfl⟩
              · refine Wc.region [{}, {}, {}, { re := some (.bool false) }, {}, {}, { r := some (.v (.bool e160_) []) }, {}, {}, { re := some (.bool false) }, {}, {}, { v := some (.int .i64 (c153_.gKids.length : Int)) }] [] [1, 2, 28] [2] [] ⟨[(1, (.v (.int .i64 b154_), [])), (2, (.ptr 2 0, [])), (28, (.v (.bool (decide ((c153_.gKids.length : Int) > 0))), []))], [(2, .cells [.int .i64 c153_.gKind, .str c153_.gName, .int .i64 c153_.gNum, .sl (List.map GTerm.c c153_.gKids)] [])], []⟩ _ (by kernel_rfl) (.cons (congrArg AV.bool h156) (.cons (cimpl_within h157) (.cons (congrArg AV.bool h158) (.cons (len_obl GTerm.c c153_.gKids) .nil)))) ?_
                rcases oif h with ⟨h159, h⟩ | ⟨h159, h⟩
                · refine Wc.condT h159 (by kernel_rfl) ?_
                  refine Wc.seq ?_
                  refine Wc.region [] [] [4] [] [] ⟨[(4, (.v (.int .i64 401), []))], [], []⟩ _ (by kernel_rfl) .nil ?_
                  refine Wc.ret ?_
                  obtain rfl := Option.some.inj h
                  exact ⟨.inl rfl, by kernel_rfl, by kernel_rfl⟩
                · refine Wc.condF h159 (by kernel_rfl) ?_
                  refine Wc.fix (st' := ⟨[(1, (.v (.int .i64 b154_), [])), (2, (.ptr 2 0, []))], [(2, .cells [.int .i64 c153_.gKind, .str c153_.gName, .int .i64 c153_.gNum, .sl (List.map GTerm.c c153_.gKids)] [])], []⟩) [] [1, 2] [2] [] (by kernel_rfl) ?_
                  refine Wc.skip ?_
                  exact ⟨rfl, h⟩
          · refine Wc.condF h155 (by kernel_rfl) ?_
            refine Wc.seq ?_
            refine Wc.region [] [] [1, 2, 11, 29] [2] [] ⟨[(1, (.v (.int .i64 b154_), [])), (2, (.ptr 2 0, [])), (11, (.v (.int .i64 c153_.gKind), [])), (29, (.v (.bool (c153_.gKind == 2)), []))], [(2, .cells [.int .i64 c153_.gKind, .str c153_.gName, .int .i64 c153_.gNum, .sl (List.map GTerm.c c153_.gKids)] [])], []⟩ _ (by kernel_rfl) .nil ?_
            rcases oif h with ⟨h160, h⟩ | ⟨h160, h⟩
            · refine Wc.condT h160 (by kernel_rfl) ?_
              refine Wc.seq ?_
              obtain ⟨e161_, h161, h⟩ := obind h
              rcases oif h with ⟨h162, h⟩ | ⟨h162, h⟩
              · refine Wc.region [{}, {}, { r := some (.v (.bool e161_) []) }, {}, { re := some (.bool true) }] [] [1, 2, 45] [2] [] ⟨[(1, (.v (.int .i64 b154_), [])), (2, (.ptr 2 0, [])), (45, (.v (.bool true), []))], [(2, .cells [.int .i64 c153_.gKind, .str c153_.gName, .int .i64 c153_.gNum, .sl (List.map GTerm.c c153_.gKids)] [])], []⟩ _ (by kernel_rfl) (.cons (cimpl_nameOk h161) (.cons (congrArg AV.bool h162) .nil)) ?_
                refine Wc.condT rfl (by kernel_rfl) ?_
                refine Wc.seq ?_
                refine Wc.region [] [] [4] [] [] ⟨[(4, (.v (.int .i64 401), []))], [], []⟩ _ (by kernel_rfl) .nil ?_
                refine Wc.ret ?_
                obtain rfl := Option.some.inj h
                exact ⟨.inl rfl, by kernel_rfl, by kernel_rfl⟩
              · rcases oif h with ⟨h163, h⟩ | ⟨h163, h⟩
                · refine Wc.region [{}, {}, { r := some (.v (.bool e161_) []) }, {}, { re := some (.bool false) }, {}, {}, {}, {}, { re := some (.bool true) }] [] [1, 2, 45] [2] [] ⟨[(1, (.v (.int .i64 b154_), [])), (2, (.ptr 2 0, [])), (45, (.v (.bool true), []))], [(2, .cells [.int .i64 c153_.gKind, .str c153_.gName, .int .i64 c153_.gNum, .sl (List.map GTerm.c c153_.gKids)] [])], []⟩ _ (by kernel_rfl) (.cons (cimpl_nameOk h161) (.cons (congrArg AV.bool h162) (.cons (congrArg AV.bool h163) .nil))) ?_
                  refine Wc.condT rfl (by kernel_rfl) ?_
                  refine Wc.seq ?_
                  refine Wc.region [] [] [4] [] [] ⟨[(4, (.v (.int .i64 401), []))], [], []⟩ _ (by kernel_rfl) .nil ?_
                  refine Wc.ret ?_
                  obtain rfl := Option.some.inj h
                  exact ⟨.inl rfl, by kernel_rfl, by kernel_rfl⟩
                · refine Wc.region [{}, {}, { r := some (.v (.bool e161_) []) }, {}, { re := some (.bool false) }, {}, {}, {}, {}, { re := some (.bool false) }, {}, {}, { v := some (.int .i64 (c153_.gKids.length : Int)) }] [] [1, 2, 45] [2] [] ⟨[(1, (.v (.int .i64 b154_), [])), (2, (.ptr 2 0, [])), (45, (.v (.bool (decide ((c153_.gKids.length : Int) > 0))), []))], [(2, .cells [.int .i64 c153_.gKind, .str c153_.gName, .int .i64 c153_.gNum, .sl (List.map GTerm.c c153_.gKids)] [])], []⟩ _ (by kernel_rfl) (.cons (cimpl_nameOk h161) (.cons (congrArg AV.bool h162) (.cons (congrArg AV.bool h163) (.cons (len_obl GTerm.c c153_.gKids) .nil)))) ?_
                  rcases oif h with ⟨h164, h⟩ | ⟨h164, h⟩
                  · refine Wc.condT h164 (by kernel_rfl) ?_
                    refine Wc.seq ?_
                    refine Wc.region [] [] [4] [] [] ⟨[(4, (.v (.int .i64 401), []))], [], []⟩ _ (by kernel_rfl) .nil ?_
                    refine Wc.ret ?_
                    obtain rfl := Option.some.inj h
                    exact ⟨.inl rfl, by kernel_rfl, by kernel_rfl⟩
                  · refine Wc.condF h164 (by kernel_rfl) ?_
                    refine Wc.fix (st' := ⟨[(1, (.v (.int .i64 b154_), [])), (2, (.ptr 2 0, []))], [(2, .cells [.int .i64 c153_.gKind, .str c153_.gName, .int .i64 c153_.gNum, .sl (List.map GTerm.c c153_.gKids)] [])], []⟩) [] [1, 2] [2] [] (by kernel_rfl) ?_
                    refine Wc.skip ?_
                    exact ⟨rfl, h⟩
            · refine Wc.condF h160 (by kernel_rfl) ?_
              refine Wc.seq ?_
              refine Wc.region [] [] [1, 2, 11, 46] [2] [] ⟨[(1, (.v (.int .i64 b154_), [])), (2, (.ptr 2 0, [])), (11, (.v (.int .i64 c153_.gKind), [])), (46, (.v (.bool (c153_.gKind == 3)), []))], [(2, .cells [.int .i64 c153_.gKind, .str c153_.gName, .int .i64 c153_.gNum, .sl (List.map GTerm.c c153_.gKids)] [])], []⟩ _ (by kernel_rfl) .nil ?_
              rcases oif h with ⟨h165, h⟩ | ⟨h165, h⟩
              · refine Wc.condT h165 (by kernel_rfl) ?_
                refine Wc.seq ?_
                rcases oif h with ⟨h166, h⟩ | ⟨h166, h⟩
                · refine Wc.region [{}, {}, {}, { re := some (.bool true) }] [] [1, 2, 62] [2] [] ⟨[(1, (.v (.int .i64 b154_), [])), (2, (.ptr 2 0, [])), (62, (.v (.bool true), []))], [(2, .cells [.int .i64 c153_.gKind, .str c153_.gName, .int .i64 c153_.gNum, .sl (List.map GTerm.c c153_.gKids)] [])], []⟩ _ (by kernel_rfl) (.cons (congrArg AV.bool h166) .nil) ?_
                  refine Wc.condT rfl (by kernel_rfl) ?_
                  refine Wc.seq ?_
                  refine Wc.region [] [] [4] [] [] ⟨[(4, (.v (.int .i64 401), []))], [], []⟩ _ (by kernel_rfl) .nil ?_
                  refine Wc.ret ?_
                  obtain rfl := Option.some.inj h
                  exact ⟨.inl rfl, by kernel_rfl, by kernel_rfl⟩
                · obtain ⟨e162_, h167, h⟩ := obind h
                  rcases oif h with ⟨h168, h⟩ | ⟨h168, h⟩
                  · refine Wc.region [{}, {}, {}, { re := some (.bool false) }, {}, {}, { r := some (.v (.bool e162_) []) }, {}, {}, { re := some (.bool true) }] [] [1, 2, 62] [2] [] ⟨[(1, (.v (.int .i64 b154_), [])), (2, (.ptr 2 0, [])), (62, (.v (.bool true), []))], [(2, .cells [.int .i64 c153_.gKind, .str c153_.gName, .int .i64 c153_.gNum, .sl (List.map GTerm.c c153_.gKids)] [])], []⟩ _ (by kernel_rfl) (.cons (congrArg AV.bool h166) (.cons (cimpl_within h167) (.cons (congrArg AV.bool h168) .nil))) ?_
                    refine Wc.condT rfl (by kernel_rfl) ?_
                    refine Wc.seq ?_
                    refine Wc.region [] [] [4] [] [] ⟨[(4, (.v (.int .i64 401), []))], [], []⟩ _ (by kernel_rfl) .nil ?_
                    refine Wc.ret ?_
                    obtain rfl := Option.some.inj h
                    exact ⟨.inl rfl, by kernel_rfl, by kernel_rfl⟩
                  · refine Wc.region [{}, {}, {}, { re := some (.bool false) }, {}, {}, { r := some (.v (.bool e162_) []) }, {}, {}, { re := some (.bool false) }, {}, {}, { v := some (.int .i64 (c153_.gKids.length : Int)) }] [] [1, 2, 62] [2] [] ⟨[(1, (.v (.int .i64 b154_), [])), (2, (.ptr 2 0, [])), (62, (.v (.bool (decide ((c153_.gKids.length : Int) > 0))), []))], [(2, .cells [.int .i64 c153_.gKind, .str c153_.gName, .int .i64 c153_.gNum, .sl (List.map GTerm.c c153_.gKids)] [])], []⟩ _ (by kernel_rfl) (.cons (congrArg AV.bool h166) (.cons (cimpl_within h167) (.cons (congrArg AV.bool h168) (.cons (len_obl GTerm.c c153_.gKids) .nil)))) ?_
                    rcases oif h with ⟨h169, h⟩ | ⟨h169, h⟩
                    · refine Wc.condT h169 (by kernel_rfl) ?_
                      refine Wc.seq ?_
                      refine Wc.region [] [] [4] [] [] ⟨[(4, (.v (.int .i64 401), []))], [], []⟩ _ (by kernel_rfl) .nil ?_
                      refine Wc.ret ?_
                      obtain rfl := Option.some.inj h
                      exact ⟨.inl rfl, by kernel_rfl, by kernel_rfl⟩
                    · refine Wc.condF h169 (by kernel_rfl) ?_
                      refine Wc.fix (st' := ⟨[(1, (.v (.int .i64 b154_), [])), (2, (.ptr 2 0, []))], [(2, .cells [.int .i64 c153_.gKind, .str c153_.gName, .int .i64 c153_.gNum, .sl (List.map GTerm.c c153_.gKids)] [])], []⟩) [] [1, 2] [2] [] (by kernel_rfl) ?_
                      refine Wc.skip ?_
                      exact ⟨rfl, h⟩
              · refine Wc.condF h165 (by kernel_rfl) ?_
                refine Wc.seq ?_
                refine Wc.region [] [] [1, 2, 63] [2] [] ⟨[(1, (.v (.int .i64 b154_), [])), (2, (.ptr 2 0, [])), (63, (.v (.bool (c153_.gKind == 4)), []))], [(2, .cells [.int .i64 c153_.gKind, .str c153_.gName, .int .i64 c153_.gNum, .sl (List.map GTerm.c c153_.gKids)] [])], []⟩ _ (by kernel_rfl) .nil ?_
                rcases oif h with ⟨h170, h⟩ | ⟨h170, h⟩
                · refine Wc.condT h170 (by kernel_rfl) ?_
                  refine Wc.seq ?_
                  obtain ⟨e163_, h171, h⟩ := obind h
                  rcases oif h with ⟨h172, h⟩ | ⟨h172, h⟩
                  · refine Wc.region [{}, {}, { r := some (.v (.bool e163_) []) }, {}, { re := some (.bool true) }] [] [1, 2, 80] [2] [] ⟨[(1, (.v (.int .i64 b154_), [])), (2, (.ptr 2 0, [])), (80, (.v (.bool true), []))], [(2, .cells [.int .i64 c153_.gKind, .str c153_.gName, .int .i64 c153_.gNum, .sl (List.map GTerm.c c153_.gKids)] [])], []⟩ _ (by kernel_rfl) (.cons (cimpl_nameOk h171) (.cons (congrArg AV.bool h172) .nil)) ?_
                    refine Wc.condT rfl (by kernel_rfl) ?_
                    refine Wc.seq ?_
                    refine Wc.region [] [] [4] [] [] ⟨[(4, (.v (.int .i64 401), []))], [], []⟩ _ (by kernel_rfl) .nil ?_
                    refine Wc.ret ?_
                    obtain rfl := Option.some.inj h
                    exact ⟨.inl rfl, by kernel_rfl, by kernel_rfl⟩
                  · rcases oif h with ⟨h173, h⟩ | ⟨h173, h⟩
                    · refine Wc.region [{}, {}, { r := some (.v (.bool e163_) []) }, {}, { re := some (.bool false) }, {}, {}, {}, {}, { re := some (.bool true) }] [] [1, 2, 80] [2] [] ⟨[(1, (.v (.int .i64 b154_), [])), (2, (.ptr 2 0, [])), (80, (.v (.bool true), []))], [(2, .cells [.int .i64 c153_.gKind, .str c153_.gName, .int .i64 c153_.gNum, .sl (List.map GTerm.c c153_.gKids)] [])], []⟩ _ (by kernel_rfl) (.cons (cimpl_nameOk h171) (.cons (congrArg AV.bool h172) (.cons (congrArg AV.bool h173) .nil))) ?_
                      refine Wc.condT rfl (by kernel_rfl) ?_
                      refine Wc.seq ?_
                      refine Wc.region [] [] [4] [] [] ⟨[(4, (.v (.int .i64 401), []))], [], []⟩ _ (by kernel_rfl) .nil ?_
                      refine Wc.ret ?_
                      obtain rfl := Option.some.inj h
                      exact ⟨.inl rfl, by kernel_rfl, by kernel_rfl⟩
                    · obtain ⟨e164_, h174, h⟩ := obind h
                      refine Wc.region [{}, {}, { r := some (.v (.bool e163_) []) }, {}, { re := some (.bool false) }, {}, {}, {}, {}, { re := some (.bool false) }, {}, {}, { v := some (.int .i64 (c153_.gKids.length : Int)) }, { r := some (.v (.bool e164_) []) }] [] [1, 2, 80] [2] [] ⟨[(1, (.v (.int .i64 b154_), [])), (2, (.ptr 2 0, [])), (80, (.v (.bool (!e164_)), []))], [(2, .cells [.int .i64 c153_.gKind, .str c153_.gName, .int .i64 c153_.gNum, .sl (List.map GTerm.c c153_.gKids)] [])], []⟩ _ (by kernel_rfl) (.cons (cimpl_nameOk h171) (.cons (congrArg AV.bool h172) (.cons (congrArg AV.bool h173) (.cons (len_obl GTerm.c c153_.gKids) (.cons (cimpl_within h174) .nil))))) ?_
                      rcases oif h with ⟨h175, h⟩ | ⟨h175, h⟩
                      · refine Wc.condT h175 (by kernel_rfl) ?_
                        refine Wc.seq ?_
                        refine Wc.region [] [] [4] [] [] ⟨[(4, (.v (.int .i64 401), []))], [], []⟩ _ (by kernel_rfl) .nil ?_
                        refine Wc.ret ?_
                        obtain rfl := Option.some.inj h
                        exact ⟨.inl rfl, by kernel_rfl, by kernel_rfl⟩
                      · refine Wc.condF h175 (by kernel_rfl) ?_
                        refine Wc.fix (st' := ⟨[(1, (.v (.int .i64 b154_), [])), (2, (.ptr 2 0, []))], [(2, .cells [.int .i64 c153_.gKind, .str c153_.gName, .int .i64 c153_.gNum, .sl (List.map GTerm.c c153_.gKids)] [])], []⟩) [] [1, 2] [2] [] (by kernel_rfl) ?_
                        refine Wc.skip ?_
                        exact ⟨rfl, h⟩
                · refine Wc.condF h170 (by kernel_rfl) ?_
                  refine Wc.seq ?_
                  refine Wc.region [] [] [4] [] [] ⟨[(4, (.v (.int .i64 401), []))], [], []⟩ _ (by kernel_rfl) .nil ?_
                  refine Wc.ret ?_
                  obtain rfl := Option.some.inj h
                  exact ⟨.inl rfl, by kernel_rfl, by kernel_rfl⟩
        · rintro st ⟨rfl, h⟩
          refine Wc.seq ?_
          refine Wc.region [] [] [1, 2, 5] [2] [] ⟨[(1, (.v (.int .i64 b154_), [])), (2, (.ptr 2 0, [])), (5, (.v (.int .i64 1), []))], [(2, .cells [.int .i64 c153_.gKind, .str c153_.gName, .int .i64 c153_.gNum, .sl (List.map GTerm.c c153_.gKids)] [])], []⟩ _ (by kernel_rfl) .nil ?_
          refine Wc.seq ?_
          refine Wc.seq ?_
          refine Wc.region [{}, {}, { v := some (.int .i64 (c153_.gKids.length : Int)) }] [] [1, 5, 82, 83, 84] [] [] ⟨[(1, (.v (.int .i64 b154_), [])), (5, (.v (.int .i64 1), [])), (82, (.v (.sl (List.map GTerm.c c153_.gKids)), [])), (83, (.v (.int .i64 (c153_.gKids.length : Int)), [])), (84, (.v (.int .i64 0), []))], [], []⟩ _ (by kernel_rfl) (.cons (len_obl GTerm.c c153_.gKids) .nil) ?_
          obtain ⟨out2, h150, h⟩ := obind h
          refine Wc.lastJ (fun st => ∃ (b157_ : Int), out2 = .done b157_ ∧ st = ⟨[(5, (.v (.int .i64 b157_), []))], [], []⟩) ?_ ?_
          · refine Wc.block ?_
            refine Wc.loop (fun m st => ∃ (b155_ : Int) (b156_ : Int), st = ⟨[(1, (.v (.int .i64 b154_), [])), (5, (.v (.int .i64 b155_), [])), (82, (.v (.sl (List.map GTerm.c c153_.gKids)), [])), (83, (.v (.int .i64 (c153_.gKids.length : Int)), [])), (84, (.v (.int .i64 b156_), []))], [], []⟩ ∧ pimpl_sized_L2 k (pimpl_sized k) c153_ b154_ m b155_ b156_ = some out2) ?_ k ⟨_, _, rfl, h150⟩
            rintro m st ⟨b155_, b156_, rfl, h150⟩
            cases m with
            | zero => exact (onone h150).elim
            | succ m =>
              refine Wc.seq ?_
              refine Wc.region [] [] [1, 5, 82, 83, 84, 85] [] [] ⟨[(1, (.v (.int .i64 b154_), [])), (5, (.v (.int .i64 b155_), [])), (82, (.v (.sl (List.map GTerm.c c153_.gKids)), [])), (83, (.v (.int .i64 (c153_.gKids.length : Int)), [])), (84, (.v (.int .i64 b156_), [])), (85, (.v (.bool (decide (b156_ < (c153_.gKids.length : Int)))), []))], [], []⟩ _ (by kernel_rfl) .nil ?_
              refine Wc.seq ?_
              rcases oif h150 with ⟨h151, h150⟩ | ⟨h151, h150⟩
              · refine Wc.condT h151 (by kernel_rfl) ?_
                refine Wc.fix (st' := ⟨[(1, (.v (.int .i64 b154_), [])), (5, (.v (.int .i64 b155_), [])), (82, (.v (.sl (List.map GTerm.c c153_.gKids)), [])), (83, (.v (.int .i64 (c153_.gKids.length : Int)), [])), (84, (.v (.int .i64 b156_), []))], [], []⟩) [] [1, 5, 82, 83, 84] [] [] (by kernel_rfl) ?_
                refine Wc.skip ?_
                refine Wc.seq ?_
                refine Wc.block ?_
                refine Wc.seq ?_
                obtain ⟨c158_, h152, h150⟩ := obind h150
                refine Wc.region [{ v := some (.vptr [.int .i64 c158_.gKind, .str c158_.gName, .int .i64 c158_.gNum, .sl (List.map GTerm.c c158_.gKids)]) }] [] [1, 5, 7, 82, 83, 84] [7] [] ⟨[(1, (.v (.int .i64 b154_), [])), (5, (.v (.int .i64 b155_), [])), (7, (.ptr 7 0, [])), (82, (.v (.sl (List.map GTerm.c c153_.gKids)), [])), (83, (.v (.int .i64 (c153_.gKids.length : Int)), [])), (84, (.v (.int .i64 b156_), []))], [(7, .cells [.int .i64 c158_.gKind, .str c158_.gName, .int .i64 c158_.gNum, .sl (List.map GTerm.c c158_.gKids)] [])], []⟩ _ (by kernel_rfl) (.cons (at_obl (c := GTerm.c) (GTerm.c_eq c158_) GTerm.c_len h152) (.cons (len_ok 4 [.int .i64 c158_.gKind, .str c158_.gName, .int .i64 c158_.gNum, .sl (List.map GTerm.c c158_.gKids)]) .nil)) ?_
                refine Wc.seq ?_
                obtain ⟨b159_, h153, h150⟩ := obind h150
                refine Wc.region [{}, {}, {}, {}, { r := some (.v (.int .i64 b159_) []) }] [] [1, 5, 82, 83, 84] [] [] ⟨[(1, (.v (.int .i64 b154_), [])), (5, (.v (.int .i64 (wr.i64 (b155_ + b159_))), [])), (82, (.v (.sl (List.map GTerm.c c153_.gKids)), [])), (83, (.v (.int .i64 (c153_.gKids.length : Int)), [])), (84, (.v (.int .i64 b156_), []))], [], []⟩ _ (by kernel_rfl) (.cons (ih_pimpl_sized h153) .nil) ?_
                refine Wc.seq ?_
                refine Wc.region [] [] [1, 5, 82, 83, 84, 95] [] [] ⟨[(1, (.v (.int .i64 b154_), [])), (5, (.v (.int .i64 (wr.i64 (b155_ + b159_))), [])), (82, (.v (.sl (List.map GTerm.c c153_.gKids)), [])), (83, (.v (.int .i64 (c153_.gKids.length : Int)), [])), (84, (.v (.int .i64 b156_), [])), (95, (.v (.bool (decide ((wr.i64 (b155_ + b159_)) > 400))), []))], [], []⟩ _ (by kernel_rfl) .nil ?_
                rcases oif h150 with ⟨h154, h150⟩ | ⟨h154, h150⟩
                · refine Wc.condT h154 (by kernel_rfl) ?_
                  refine Wc.seq ?_
                  refine Wc.region [] [] [4] [] [] ⟨[(4, (.v (.int .i64 401), []))], [], []⟩ _ (by kernel_rfl) .nil ?_
                  refine Wc.ret ?_
                  obtain rfl := Option.some.inj h150
                  obtain rfl := Option.some.inj h
                  exact ⟨.inl rfl, by kernel_rfl, by kernel_rfl⟩
                · refine Wc.condF h154 (by kernel_rfl) ?_
                  refine Wc.fix (st' := ⟨[(1, (.v (.int .i64 b154_), [])), (5, (.v (.int .i64 (wr.i64 (b155_ + b159_))), [])), (82, (.v (.sl (List.map GTerm.c c153_.gKids)), [])), (83, (.v (.int .i64 (c153_.gKids.length : Int)), [])), (84, (.v (.int .i64 b156_), []))], [], []⟩) [] [1, 5, 82, 83, 84] [] [] (by kernel_rfl) ?_
                  refine Wc.skip ?_
                  refine Wc.region [] [] [1, 5, 82, 83, 84] [] [] ⟨[(1, (.v (.int .i64 b154_), [])), (5, (.v (.int .i64 (wr.i64 (b155_ + b159_))), [])), (82, (.v (.sl (List.map GTerm.c c153_.gKids)), [])), (83, (.v (.int .i64 (c153_.gKids.length : Int)), [])), (84, (.v (.int .i64 (wr.i64 (b156_ + 1))), []))], [], []⟩ _ (by kernel_rfl) .nil ?_
                  exact ⟨_, Nat.lt_succ_self _, _, _, rfl, h150⟩
              · refine Wc.condF h151 (by kernel_rfl) ?_
                refine Wc.fix (st' := ⟨[(5, (.v (.int .i64 b155_), []))], [], []⟩) [] [5] [] [] (by kernel_rfl) ?_
                refine Wc.exit ?_
                obtain rfl := Option.some.inj h150
                exact ⟨_, rfl, rfl⟩
          · rintro st ⟨b157_, rfl, rfl⟩
            refine Wc.seq ?_
            refine Wc.region [] [] [4] [] [] ⟨[(4, (.v (.int .i64 b157_), []))], [], []⟩ _ (by kernel_rfl) .nil ?_
            refine Wc.ret ?_
            obtain rfl := Option.some.inj h
            exact ⟨.inl rfl, by kernel_rfl, by kernel_rfl⟩
theorem cimpl_sized {k : Nat} {c153_ : GTerm} {b154_ : Int} {r : Int} (h : pimpl_sized k c153_ b154_ = some r) : FnO Try.prog 99 [.v (.agg [.int .i64 c153_.gKind, .str c153_.gName, .int .i64 c153_.gNum, .sl (List.map GTerm.c c153_.gKids)]) [], .v (.int .i64 b154_) []] (.v (.int .i64 r) []) [] := (all_pimpl_sized k) h

/-- impl.TermOk -/
def pimpl_TermOk (k : Nat) (c165_ : GTerm) : Option Bool :=
  (pimpl_sized k c165_ 1).bind fun b166_ =>
  some (decide (b166_ ≤ 400))
theorem cimpl_TermOk {k : Nat} {c165_ : GTerm} {r : Bool} (h : pimpl_TermOk k c165_ = some r) : FnO Try.prog 59 [.v (.agg [.int .i64 c165_.gKind, .str c165_.gName, .int .i64 c165_.gNum, .sl (List.map GTerm.c c165_.gKids)]) []] (.v (.bool r) []) [] := by
  refine FnO.of Try.func59 (rfl : Try.f59.body = some _) (Nat.le_of_ble_eq_true (by kernel_rfl)) (Nat.le_of_ble_eq_true (by kernel_rfl)) ?_
  intro w0 X0 Fin pv0 pb
  unfold pimpl_TermOk at h
  refine Wc.seq ?_
  refine Wc.region [] [] [1] [1] [] ⟨[(1, (.ptr 1 0, []))], [(1, .cells [.int .i64 c165_.gKind, .str c165_.gName, .int .i64 c165_.gNum, .sl (List.map GTerm.c c165_.gKids)] [])], []⟩ _ (by kernel_rfl) .nil ?_
  refine Wc.seq ?_
  obtain ⟨b166_, h176, h⟩ := obind h
  refine Wc.region [{}, { r := some (.v (.int .i64 b166_) []) }] [] [2] [] [] ⟨[(2, (.v (.bool (decide (b166_ ≤ 400))), []))], [], []⟩ _ (by kernel_rfl) (.cons (cimpl_sized h176) .nil) ?_
  refine Wc.ret ?_
  obtain rfl := Option.some.inj h
  exact ⟨.inl rfl, by kernel_rfl, by kernel_rfl⟩

/-- impl.isStruct -/
def pimpl_isStruct (k : Nat) (c167_ : GTerm) (d168_ : ByteArray) (b169_ : Int) : Option Bool :=
  if (c167_.gKind == 4) = true then
    if (sEq c167_.gName d168_) = true then
      some ((c167_.gKids.length : Int) == b169_)
    else
      some false
  else
    some false
theorem cimpl_isStruct {k : Nat} {c167_ : GTerm} {d168_ : ByteArray} {b169_ : Int} {r : Bool} (h : pimpl_isStruct k c167_ d168_ b169_ = some r) : FnO Try.prog 128 [.v (.agg [.int .i64 c167_.gKind, .str c167_.gName, .int .i64 c167_.gNum, .sl (List.map GTerm.c c167_.gKids)]) [], .v (.str d168_) [], .v (.int .i64 b169_) []] (.v (.bool r) []) [] := by
  refine FnO.of Try.func128 (rfl : Try.f128.body = some _) (Nat.le_of_ble_eq_true (by kernel_rfl)) (Nat.le_of_ble_eq_true (by kernel_rfl)) ?_
  intro w0 X0 Fin pv0 pb
  unfold pimpl_isStruct at h
  refine Wc.seq ?_
  refine Wc.region [] [] [1, 2, 3] [3] [] ⟨[(1, (.v (.str d168_), [])), (2, (.v (.int .i64 b169_), [])), (3, (.ptr 3 0, []))], [(3, .cells [.int .i64 c167_.gKind, .str c167_.gName, .int .i64 c167_.gNum, .sl (List.map GTerm.c c167_.gKids)] [])], []⟩ _ (by kernel_rfl) .nil ?_
  refine Wc.seq ?_
  rcases oif h with ⟨h177, h⟩ | ⟨h177, h⟩
  · rcases oif h with ⟨h178, h⟩ | ⟨h178, h⟩
    · refine Wc.region [{}, {}, {}, { re := some (.bool true) }, {}, {}, {}, {}, {}, { re := some (.bool true) }, {}, {}, { v := some (.int .i64 (c167_.gKids.length : Int)) }] [] [6] [] [] ⟨[(6, (.v (.bool ((c167_.gKids.length : Int) == b169_)), []))], [], []⟩ _ (by kernel_rfl) (.cons (congrArg AV.bool h177) (.cons (congrArg AV.bool h178) (.cons (len_obl GTerm.c c167_.gKids) .nil))) ?_
      refine Wc.ret ?_
      obtain rfl := Option.some.inj h
      exact ⟨.inl rfl, by kernel_rfl, by kernel_rfl⟩
    · refine Wc.region [{}, {}, {}, { re := some (.bool true) }, {}, {}, {}, {}, {}, { re := some (.bool false) }] [] [6] [] [] ⟨[(6, (.v (.bool false), []))], [], []⟩ _ (by kernel_rfl) (.cons (congrArg AV.bool h177) (.cons (congrArg AV.bool h178) .nil)) ?_
      refine Wc.ret ?_
      obtain rfl := Option.some.inj h
      exact ⟨.inl rfl, by kernel_rfl, by kernel_rfl⟩
  · refine Wc.region [{}, {}, {}, { re := some (.bool false) }] [] [6] [] [] ⟨[(6, (.v (.bool false), []))], [], []⟩ _ (by kernel_rfl) (.cons (congrArg AV.bool h177) .nil) ?_
    refine Wc.ret ?_
    obtain rfl := Option.some.inj h
    exact ⟨.inl rfl, by kernel_rfl, by kernel_rfl⟩

/-- impl.isPair -/
def pimpl_isPair (k : Nat) (c170_ : GTerm) : Option Bool :=
  (pimpl_isStruct k c170_ (bs [46]) 2).bind fun e171_ =>
  some e171_
theorem cimpl_isPair {k : Nat} {c170_ : GTerm} {r : Bool} (h : pimpl_isPair k c170_ = some r) : FnO Try.prog 94 [.v (.agg [.int .i64 c170_.gKind, .str c170_.gName, .int .i64 c170_.gNum, .sl (List.map GTerm.c c170_.gKids)]) []] (.v (.bool r) []) [] := by
  refine FnO.of Try.func94 (rfl : Try.f94.body = some _) (Nat.le_of_ble_eq_true (by kernel_rfl)) (Nat.le_of_ble_eq_true (by kernel_rfl)) ?_
  intro w0 X0 Fin pv0 pb
  unfold pimpl_isPair at h
  refine Wc.seq ?_
  refine Wc.region [] [] [1] [1] [] ⟨[(1, (.ptr 1 0, []))], [(1, .cells [.int .i64 c170_.gKind, .str c170_.gName, .int .i64 c170_.gNum, .sl (List.map GTerm.c c170_.gKids)] [])], []⟩ _ (by kernel_rfl) .nil ?_
  refine Wc.seq ?_
  obtain ⟨e171_, h179, h⟩ := obind h
  refine Wc.region [{}, { r := some (.v (.bool e171_) []) }] [] [2] [] [] ⟨[(2, (.v (.bool e171_), []))], [], []⟩ _ (by kernel_rfl) (.cons (cimpl_isStruct h179) .nil) ?_
  refine Wc.ret ?_
  obtain rfl := Option.some.inj h
  exact ⟨.inl rfl, by kernel_rfl, by kernel_rfl⟩

/-- impl.isAtom -/
def pimpl_isAtom (k : Nat) (c172_ : GTerm) (d173_ : ByteArray) : Option Bool :=
  if (c172_.gKind == 2) = true then
    some (sEq c172_.gName d173_)
  else
    some false
theorem cimpl_isAtom {k : Nat} {c172_ : GTerm} {d173_ : ByteArray} {r : Bool} (h : pimpl_isAtom k c172_ d173_ = some r) : FnO Try.prog 95 [.v (.agg [.int .i64 c172_.gKind, .str c172_.gName, .int .i64 c172_.gNum, .sl (List.map GTerm.c c172_.gKids)]) [], .v (.str d173_) []] (.v (.bool r) []) [] := by
  refine FnO.of Try.func95 (rfl : Try.f95.body = some _) (Nat.le_of_ble_eq_true (by kernel_rfl)) (Nat.le_of_ble_eq_true (by kernel_rfl)) ?_
  intro w0 X0 Fin pv0 pb
  unfold pimpl_isAtom at h
  refine Wc.seq ?_
  refine Wc.region [] [] [1, 2] [2] [] ⟨[(1, (.v (.str d173_), [])), (2, (.ptr 2 0, []))], [(2, .cells [.int .i64 c172_.gKind, .str c172_.gName, .int .i64 c172_.gNum, .sl (List.map GTerm.c c172_.gKids)] [])], []⟩ _ (by kernel_rfl) .nil ?_
  refine Wc.seq ?_
  rcases oif h with ⟨h180, h⟩ | ⟨h180, h⟩
  · refine Wc.region [{}, {}, {}, { re := some (.bool true) }] [] [4] [] [] ⟨[(4, (.v (.bool (sEq c172_.gName d173_)), []))], [], []⟩ _ (by kernel_rfl) (.cons (congrArg AV.bool h180) .nil) ?_
    refine Wc.ret ?_
    obtain rfl := Option.some.inj h
    exact ⟨.inl rfl, by kernel_rfl, by kernel_rfl⟩
  · refine Wc.region [{}, {}, {}, { re := some (.bool false) }] [] [4] [] [] ⟨[(4, (.v (.bool false), []))], [], []⟩ _ (by kernel_rfl) (.cons (congrArg AV.bool h180) .nil) ?_
    refine Wc.ret ?_
    obtain rfl := Option.some.inj h
    exact ⟨.inl rfl, by kernel_rfl, by kernel_rfl⟩

def pimpl_ItemsOf_L1 (k : Nat) : Nat → (List GTerm) → GTerm → Option (Out ((List GTerm) × Bool) ((List GTerm) × GTerm))
  | 0, _, _ => none
  | m + 1, a187_, c188_ =>
    (pimpl_isPair k c188_).bind fun e191_ =>
    if e191_ = true then
      (at' c188_.gKids 0).bind fun c192_ =>
      (pimpl_copyTerm k c192_).bind fun c193_ =>
      if a187_.length + [c193_].length ≤ 1073741824 then
        (at' c188_.gKids 1).bind fun c194_ =>
        pimpl_ItemsOf_L1 k m (a187_ ++ [c193_]) c194_
      else none
    else
      some (.done (a187_, c188_))
/-- impl.ItemsOf -/
def pimpl_ItemsOf (k : Nat) (c185_ : GTerm) : Option ((List GTerm) × Bool) :=
  (pimpl_TermOk k c185_).bind fun e186_ =>
  if (!e186_) = true then
    some ([], false)
  else
    (pimpl_ItemsOf_L1 k k [] c185_).bind fun out1 => match out1 with
    | .ret r => some r
    | .done (a189_, c190_) =>
      (pimpl_isAtom k c190_ (bs [91, 93])).bind fun e195_ =>
      if (!e195_) = true then
        some ([], false)
      else
        some (a189_, true)
theorem cimpl_ItemsOf {k : Nat} {c185_ : GTerm} {r : (List GTerm) × Bool} (h : pimpl_ItemsOf k c185_ = some r) : FnO Try.prog 56 [.v (.agg [.int .i64 c185_.gKind, .str c185_.gName, .int .i64 c185_.gNum, .sl (List.map GTerm.c c185_.gKids)]) []] (.v (.tup [.sl (List.map GTerm.c r.1), .bool r.2]) [(0, .app 37)]) [] := by
  refine FnO.of Try.func56 (rfl : Try.f56.body = some _) (Nat.le_of_ble_eq_true (by kernel_rfl)) (Nat.le_of_ble_eq_true (by kernel_rfl)) ?_
  intro w0 X0 Fin pv0 pb
  unfold pimpl_ItemsOf at h
  refine Wc.seq ?_
  refine Wc.region [] [] [1] [1] [] ⟨[(1, (.ptr 1 0, []))], [(1, .cells [.int .i64 c185_.gKind, .str c185_.gName, .int .i64 c185_.gNum, .sl (List.map GTerm.c c185_.gKids)] [])], []⟩ _ (by kernel_rfl) .nil ?_
  refine Wc.seq ?_
  refine Wc.seq ?_
  obtain ⟨e186_, h192, h⟩ := obind h
  refine Wc.region [{}, { r := some (.v (.bool e186_) []) }] [] [1, 7] [1] [] ⟨[(1, (.ptr 1 0, [])), (7, (.v (.bool (!e186_)), []))], [(1, .cells [.int .i64 c185_.gKind, .str c185_.gName, .int .i64 c185_.gNum, .sl (List.map GTerm.c c185_.gKids)] [])], []⟩ _ (by kernel_rfl) (.cons (cimpl_TermOk h192) .nil) ?_
  rcases oif h with ⟨h193, h⟩ | ⟨h193, h⟩
  · refine Wc.condT h193 (by kernel_rfl) ?_
    refine Wc.seq ?_
    refine Wc.region [] [] [2, 3] [] [] ⟨[(2, (.v (.sl (List.map GTerm.c [])), [(0, .app 37)])), (3, (.v (.bool false), []))], [], []⟩ _ (by kernel_rfl) .nil ?_
    refine Wc.ret ?_
    obtain rfl := Option.some.inj h
    exact ⟨.inl rfl, by kernel_rfl, by kernel_rfl⟩
  · refine Wc.condF h193 (by kernel_rfl) ?_
    refine Wc.fix (st' := ⟨[(1, (.ptr 1 0, []))], [(1, .cells [.int .i64 c185_.gKind, .str c185_.gName, .int .i64 c185_.gNum, .sl (List.map GTerm.c c185_.gKids)] [])], []⟩) [] [1] [1] [] (by kernel_rfl) ?_
    refine Wc.skip ?_
    refine Wc.seq ?_
    refine Wc.region [] [] [1, 4] [1] [] ⟨[(1, (.ptr 1 0, [])), (4, (.v (.sl (List.map GTerm.c [])), [(0, .app 37)]))], [(1, .cells [.int .i64 c185_.gKind, .str c185_.gName, .int .i64 c185_.gNum, .sl (List.map GTerm.c c185_.gKids)] [])], []⟩ _ (by kernel_rfl) .nil ?_
    obtain ⟨out1, h194, h⟩ := obind h
    refine Wc.seqJ (fun st => ∃ (a189_ : List GTerm) (c190_ : GTerm), out1 = .done (a189_, c190_) ∧ st = ⟨[(1, (.ptr 1 0, [])), (4, (.v (.sl (List.map GTerm.c a189_)), [(0, .app 37)]))], [(1, .cells [.int .i64 c190_.gKind, .str c190_.gName, .int .i64 c190_.gNum, .sl (List.map GTerm.c c190_.gKids)] [])], []⟩) ?_ ?_
    · refine Wc.block ?_
      refine Wc.loop (fun m st => ∃ (a187_ : List GTerm) (c188_ : GTerm), st = ⟨[(1, (.ptr 1 0, [])), (4, (.v (.sl (List.map GTerm.c a187_)), [(0, .app 37)]))], [(1, .cells [.int .i64 c188_.gKind, .str c188_.gName, .int .i64 c188_.gNum, .sl (List.map GTerm.c c188_.gKids)] [])], []⟩ ∧ pimpl_ItemsOf_L1 k m a187_ c188_ = some out1) ?_ k ⟨_, _, rfl, h194⟩
      rintro m st ⟨a187_, c188_, rfl, h194⟩
      cases m with
      | zero => exact (onone h194).elim
      | succ m =>
        refine Wc.seq ?_
        refine Wc.seq ?_
        obtain ⟨e191_, h195, h194⟩ := obind h194
        refine Wc.region [{}, { r := some (.v (.bool e191_) []) }] [] [1, 4, 9] [1] [] ⟨[(1, (.ptr 1 0, [])), (4, (.v (.sl (List.map GTerm.c a187_)), [(0, .app 37)])), (9, (.v (.bool e191_), []))], [(1, .cells [.int .i64 c188_.gKind, .str c188_.gName, .int .i64 c188_.gNum, .sl (List.map GTerm.c c188_.gKids)] [])], []⟩ _ (by kernel_rfl) (.cons (cimpl_isPair h195) .nil) ?_
        rcases oif h194 with ⟨h196, h194⟩ | ⟨h196, h194⟩
        · refine Wc.condT h196 (by kernel_rfl) ?_
          refine Wc.fix (st' := ⟨[(1, (.ptr 1 0, [])), (4, (.v (.sl (List.map GTerm.c a187_)), [(0, .app 37)]))], [(1, .cells [.int .i64 c188_.gKind, .str c188_.gName, .int .i64 c188_.gNum, .sl (List.map GTerm.c c188_.gKids)] [])], []⟩) [] [1, 4] [1] [] (by kernel_rfl) ?_
          refine Wc.skip ?_
          refine Wc.seq ?_
          refine Wc.block ?_
          obtain ⟨c192_, h197, h194⟩ := obind h194
          obtain ⟨c193_, h198, h194⟩ := obind h194
          obtain ⟨h199, h194⟩ := oguard h194
          refine Wc.region [{ tk := [4] }, {}, {}, { v := some (.vptr [.int .i64 c192_.gKind, .str c192_.gName, .int .i64 c192_.gNum, .sl (List.map GTerm.c c192_.gKids)]) }, {}, { r := some (.v (.agg [.int .i64 c193_.gKind, .str c193_.gName, .int .i64 c193_.gNum, .sl (List.map GTerm.c c193_.gKids)]) [(3, .app 37)]) }, { c := some (List.map GTerm.c [c193_]) }, { c := some (List.map GTerm.c (a187_ ++ [c193_])), tk := [14] }, { tk := [21] }] [] [1, 4] [1] [] ⟨[(1, (.ptr 1 0, [])), (4, (.v (.sl (List.map GTerm.c (a187_ ++ [c193_]))), [(0, .app 37)]))], [(1, .cells [.int .i64 c188_.gKind, .str c188_.gName, .int .i64 c188_.gNum, .sl (List.map GTerm.c c188_.gKids)] [])], []⟩ _ (by kernel_rfl) (.cons (at_obl (c := GTerm.c) (GTerm.c_eq c192_) GTerm.c_len h197) (.cons (len_ok 4 [.int .i64 c192_.gKind, .str c192_.gName, .int .i64 c192_.gNum, .sl (List.map GTerm.c c192_.gKids)]) (.cons (cimpl_copyTerm h198) (.cons (cl_cons (c := GTerm.c) (x := c193_) (GTerm.c_eq c193_) (cl_nil GTerm.c)) (.cons (app_re2 GTerm.c a187_ [c193_]) (.cons (app_leaf (c := GTerm.c) (ys := [c193_]) GTerm.c_leaf) (.cons (app_obl2 (c := GTerm.c) (xs := a187_) (ys := [c193_]) GTerm.c_len h199) .nil))))))) ?_
          obtain ⟨c194_, h200, h194⟩ := obind h194
          refine Wc.region [{}, {}, { v := some (.vptr [.int .i64 c194_.gKind, .str c194_.gName, .int .i64 c194_.gNum, .sl (List.map GTerm.c c194_.gKids)]) }] [] [1, 4] [1] [] ⟨[(1, (.ptr 1 0, [])), (4, (.v (.sl (List.map GTerm.c (a187_ ++ [c193_]))), [(0, .app 37)]))], [(1, .cells [.int .i64 c194_.gKind, .str c194_.gName, .int .i64 c194_.gNum, .sl (List.map GTerm.c c194_.gKids)] [])], []⟩ _ (by kernel_rfl) (.cons (at_obl (c := GTerm.c) (GTerm.c_eq c194_) GTerm.c_len h200) (.cons (len_ok 4 [.int .i64 c194_.gKind, .str c194_.gName, .int .i64 c194_.gNum, .sl (List.map GTerm.c c194_.gKids)]) .nil)) ?_
          exact ⟨_, Nat.lt_succ_self _, _, _, rfl, h194⟩
        · refine Wc.condF h196 (by kernel_rfl) ?_
          refine Wc.fix (st' := ⟨[(1, (.ptr 1 0, [])), (4, (.v (.sl (List.map GTerm.c a187_)), [(0, .app 37)]))], [(1, .cells [.int .i64 c188_.gKind, .str c188_.gName, .int .i64 c188_.gNum, .sl (List.map GTerm.c c188_.gKids)] [])], []⟩) [] [1, 4] [1] [] (by kernel_rfl) ?_
          refine Wc.exit ?_
          obtain rfl := Option.some.inj h194
          exact ⟨_, _, rfl, rfl⟩
    · rintro st ⟨a189_, c190_, rfl, rfl⟩
      refine Wc.seq ?_
      refine Wc.seq ?_
      obtain ⟨e195_, h201, h⟩ := obind h
      refine Wc.region [{}, { r := some (.v (.bool e195_) []) }] [] [4, 24] [] [] ⟨[(4, (.v (.sl (List.map GTerm.c a189_)), [(0, .app 37)])), (24, (.v (.bool (!e195_)), []))], [], []⟩ _ (by kernel_rfl) (.cons (cimpl_isAtom h201) .nil) ?_
      rcases oif h with ⟨h202, h⟩ | ⟨h202, h⟩
      · refine Wc.condT h202 (by kernel_rfl) ?_
        refine Wc.seq ?_
        refine Wc.region [] [] [2, 3] [] [] ⟨[(2, (.v (.sl (List.map GTerm.c [])), [(0, .app 37)])), (3, (.v (.bool false), []))], [], []⟩ _ (by kernel_rfl) .nil ?_
        refine Wc.ret ?_
        obtain rfl := Option.some.inj h
        exact ⟨.inl rfl, by kernel_rfl, by kernel_rfl⟩
      · refine Wc.condF h202 (by kernel_rfl) ?_
        refine Wc.fix (st' := ⟨[(4, (.v (.sl (List.map GTerm.c a189_)), [(0, .app 37)]))], [], []⟩) [] [4] [] [] (by kernel_rfl) ?_
        refine Wc.skip ?_
        refine Wc.seq ?_
        refine Wc.region [{ tk := [4] }, { tk := [25] }] [] [2, 3] [] [] ⟨[(2, (.v (.sl (List.map GTerm.c a189_)), [(0, .app 37)])), (3, (.v (.bool true), []))], [], []⟩ _ (by kernel_rfl) .nil ?_
        refine Wc.ret ?_
        obtain rfl := Option.some.inj h
        exact ⟨.inl rfl, by kernel_rfl, by kernel_rfl⟩

/-- impl.structure -/
def pimpl_structure (k : Nat) (d196_ : ByteArray) (a197_ : List GTerm) : Option GTerm :=
  some (GTerm.mk 4 d196_ 0 a197_)
theorem cimpl_structure {k : Nat} {d196_ : ByteArray} {a197_ : List GTerm} {r : GTerm} (h : pimpl_structure k d196_ a197_ = some r) : FnO Try.prog 96 [.v (.str d196_) [], .v (.sl (List.map GTerm.c a197_)) []] (.v (.agg [.int .i64 r.gKind, .str r.gName, .int .i64 r.gNum, .sl (List.map GTerm.c r.gKids)]) []) [] := by
  refine FnO.of Try.func96 (rfl : Try.f96.body = some _) (Nat.le_of_ble_eq_true (by kernel_rfl)) (Nat.le_of_ble_eq_true (by kernel_rfl)) ?_
  intro w0 X0 Fin pv0 pb
  unfold pimpl_structure at h
  refine Wc.seq ?_
  refine Wc.region [] [] [0, 1, 4] [4] [] ⟨[(0, (.v (.str d196_), [])), (1, (.v (.sl (List.map GTerm.c a197_)), [])), (4, (.ptr 4 0, []))], [(4, .cells [.int .i64 0, .str (bs []), .int .i64 0, .sl (List.map GTerm.c [])] [(3, .app 37)])], []⟩ _ (by kernel_rfl) .nil ?_
  refine Wc.seq ?_
  refine Wc.region [] [] [4] [4] [] ⟨[(4, (.ptr 4 0, []))], [(4, .cells [.int .i64 4, .str d196_, .int .i64 0, .sl (List.map GTerm.c a197_)] [])], []⟩ _ (by kernel_rfl) .nil ?_
  refine Wc.ret ?_
  obtain rfl := Option.some.inj h
  exact ⟨.inl rfl, by kernel_rfl, by kernel_rfl⟩

def pimpl_listOf_L1 (k : Nat) (a198_ : List GTerm) : Nat → Int → GTerm → Option (Out GTerm GTerm)
  | 0, _, _ => none
  | m + 1, b200_, c201_ =>
    if (decide (b200_ ≥ 0)) = true then
      (at' a198_ b200_).bind fun c203_ =>
      (pimpl_copyTerm k c203_).bind fun c204_ =>
      (pimpl_structure k (bs [46]) [c204_, c201_]).bind fun c205_ =>
      pimpl_listOf_L1 k a198_ m (wr.i64 (b200_ - 1)) c205_
    else
      some (.done c201_)
/-- impl.listOf -/
def pimpl_listOf (k : Nat) (a198_ : List GTerm) (c199_ : GTerm) : Option GTerm :=
  (pimpl_listOf_L1 k a198_ k (wr.i64 ((a198_.length : Int) - 1)) c199_).bind fun out1 => match out1 with
  | .ret r => some r
  | .done c202_ =>
    some c202_
theorem cimpl_listOf {k : Nat} {a198_ : List GTerm} {c199_ : GTerm} {r : GTerm} (h : pimpl_listOf k a198_ c199_ = some r) : FnO Try.prog 57 [.v (.sl (List.map GTerm.c a198_)) [], .v (.agg [.int .i64 c199_.gKind, .str c199_.gName, .int .i64 c199_.gNum, .sl (List.map GTerm.c c199_.gKids)]) []] (.v (.agg [.int .i64 r.gKind, .str r.gName, .int .i64 r.gNum, .sl (List.map GTerm.c r.gKids)]) []) [] := by
  refine FnO.of Try.func57 (rfl : Try.f57.body = some _) (Nat.le_of_ble_eq_true (by kernel_rfl)) (Nat.le_of_ble_eq_true (by kernel_rfl)) ?_
  intro w0 X0 Fin pv0 pb
  unfold pimpl_listOf at h
  refine Wc.seq ?_
  refine Wc.region [] [] [0, 3, 4] [3, 4] [] ⟨[(0, (.v (.sl (List.map GTerm.c a198_)), [])), (3, (.ptr 3 0, [])), (4, (.ptr 4 0, []))], [(3, .cells [.int .i64 c199_.gKind, .str c199_.gName, .int .i64 c199_.gNum, .sl (List.map GTerm.c c199_.gKids)] []), (4, .cells [.int .i64 0, .str (bs []), .int .i64 0, .sl (List.map GTerm.c [])] [(3, .app 37)])], []⟩ _ (by kernel_rfl) .nil ?_
  refine Wc.seq ?_
  refine Wc.seq ?_
  refine Wc.region [{}, { v := some (.int .i64 (a198_.length : Int)) }] [] [0, 3, 4, 5] [3, 4] [] ⟨[(0, (.v (.sl (List.map GTerm.c a198_)), [])), (3, (.ptr 3 0, [])), (4, (.ptr 4 0, [])), (5, (.v (.int .i64 (wr.i64 ((a198_.length : Int) - 1))), []))], [(3, .cells [.int .i64 c199_.gKind, .str c199_.gName, .int .i64 c199_.gNum, .sl (List.map GTerm.c c199_.gKids)] []), (4, .cells [.int .i64 0, .str (bs []), .int .i64 0, .sl (List.map GTerm.c [])] [(3, .app 37)])], []⟩ _ (by kernel_rfl) (.cons (len_obl GTerm.c a198_) .nil) ?_
  obtain ⟨out1, h203, h⟩ := obind h
  refine Wc.lastJ (fun st => ∃ (c202_ : GTerm), out1 = .done c202_ ∧ st = ⟨[(3, (.ptr 3 0, [])), (4, (.ptr 4 0, []))], [(3, .cells [.int .i64 c202_.gKind, .str c202_.gName, .int .i64 c202_.gNum, .sl (List.map GTerm.c c202_.gKids)] []), (4, .cells [.int .i64 0, .str (bs []), .int .i64 0, .sl (List.map GTerm.c [])] [(3, .app 37)])], []⟩) ?_ ?_
  · refine Wc.block ?_
    refine Wc.loop (fun m st => ∃ (b200_ : Int) (c201_ : GTerm), st = ⟨[(0, (.v (.sl (List.map GTerm.c a198_)), [])), (3, (.ptr 3 0, [])), (4, (.ptr 4 0, [])), (5, (.v (.int .i64 b200_), []))], [(3, .cells [.int .i64 c201_.gKind, .str c201_.gName, .int .i64 c201_.gNum, .sl (List.map GTerm.c c201_.gKids)] []), (4, .cells [.int .i64 0, .str (bs []), .int .i64 0, .sl (List.map GTerm.c [])] [(3, .app 37)])], []⟩ ∧ pimpl_listOf_L1 k a198_ m b200_ c201_ = some out1) ?_ k ⟨_, _, rfl, h203⟩
    rintro m st ⟨b200_, c201_, rfl, h203⟩
    cases m with
    | zero => exact (onone h203).elim
    | succ m =>
      refine Wc.seq ?_
      refine Wc.seq ?_
      refine Wc.region [] [] [0, 3, 4, 5, 10] [3, 4] [] ⟨[(0, (.v (.sl (List.map GTerm.c a198_)), [])), (3, (.ptr 3 0, [])), (4, (.ptr 4 0, [])), (5, (.v (.int .i64 b200_), [])), (10, (.v (.bool (decide (b200_ ≥ 0))), []))], [(3, .cells [.int .i64 c201_.gKind, .str c201_.gName, .int .i64 c201_.gNum, .sl (List.map GTerm.c c201_.gKids)] []), (4, .cells [.int .i64 0, .str (bs []), .int .i64 0, .sl (List.map GTerm.c [])] [(3, .app 37)])], []⟩ _ (by kernel_rfl) .nil ?_
      rcases oif h203 with ⟨h204, h203⟩ | ⟨h204, h203⟩
      · refine Wc.condT h204 (by kernel_rfl) ?_
        refine Wc.fix (st' := ⟨[(0, (.v (.sl (List.map GTerm.c a198_)), [])), (3, (.ptr 3 0, [])), (4, (.ptr 4 0, [])), (5, (.v (.int .i64 b200_), []))], [(3, .cells [.int .i64 c201_.gKind, .str c201_.gName, .int .i64 c201_.gNum, .sl (List.map GTerm.c c201_.gKids)] []), (4, .cells [.int .i64 0, .str (bs []), .int .i64 0, .sl (List.map GTerm.c [])] [(3, .app 37)])], []⟩) [] [0, 3, 4, 5] [3, 4] [] (by kernel_rfl) ?_
        refine Wc.skip ?_
        refine Wc.seq ?_
        refine Wc.block ?_
        obtain ⟨c203_, h205, h203⟩ := obind h203
        obtain ⟨c204_, h206, h203⟩ := obind h203
        obtain ⟨c205_, h207, h203⟩ := obind h203
        refine Wc.draw hmix [{}, {}, { v := some (.vptr [.int .i64 c203_.gKind, .str c203_.gName, .int .i64 c203_.gNum, .sl (List.map GTerm.c c203_.gKids)]) }, {}, { r := some (.v (.agg [.int .i64 c204_.gKind, .str c204_.gName, .int .i64 c204_.gNum, .sl (List.map GTerm.c c204_.gKids)]) [(3, .app 37)]) }, {}, { c := some (List.map GTerm.c [c204_, c201_]) }, { r := some (.v (.agg [.int .i64 c205_.gKind, .str c205_.gName, .int .i64 c205_.gNum, .sl (List.map GTerm.c c205_.gKids)]) []) }] [] [0, 3, 4, 5] [3, 4] [] ⟨[(0, (.v (.sl (List.map GTerm.c a198_)), [])), (3, (.ptr 3 0, [])), (4, (.ptr 4 0, [])), (5, (.v (.int .i64 b200_), []))], [(3, .cells [.int .i64 c205_.gKind, .str c205_.gName, .int .i64 c205_.gNum, .sl (List.map GTerm.c c205_.gKids)] []), (4, .cells [.int .i64 0, .str (bs []), .int .i64 0, .sl (List.map GTerm.c [])] [(3, .app 37)])], []⟩ _ (by kernel_rfl) (fun X => by kernel_rfl) (.cons (at_obl (c := GTerm.c) (GTerm.c_eq c203_) GTerm.c_len h205) (.cons (len_ok 4 [.int .i64 c203_.gKind, .str c203_.gName, .int .i64 c203_.gNum, .sl (List.map GTerm.c c203_.gKids)]) (.cons (cimpl_copyTerm h206) (.cons (cl_cons (c := GTerm.c) (x := c204_) (GTerm.c_eq c204_) (cl_cons (c := GTerm.c) (x := c201_) (GTerm.c_eq c201_) (cl_nil GTerm.c))) (.cons (cimpl_structure h207) .nil))))) ?_
        refine Wc.region [] [] [0, 3, 4, 5] [3, 4] [] ⟨[(0, (.v (.sl (List.map GTerm.c a198_)), [])), (3, (.ptr 3 0, [])), (4, (.ptr 4 0, [])), (5, (.v (.int .i64 (wr.i64 (b200_ - 1))), []))], [(3, .cells [.int .i64 c205_.gKind, .str c205_.gName, .int .i64 c205_.gNum, .sl (List.map GTerm.c c205_.gKids)] []), (4, .cells [.int .i64 0, .str (bs []), .int .i64 0, .sl (List.map GTerm.c [])] [(3, .app 37)])], []⟩ _ (by kernel_rfl) .nil ?_
        exact ⟨_, Nat.lt_succ_self _, _, _, rfl, h203⟩
      · refine Wc.condF h204 (by kernel_rfl) ?_
        refine Wc.fix (st' := ⟨[(3, (.ptr 3 0, [])), (4, (.ptr 4 0, []))], [(3, .cells [.int .i64 c201_.gKind, .str c201_.gName, .int .i64 c201_.gNum, .sl (List.map GTerm.c c201_.gKids)] []), (4, .cells [.int .i64 0, .str (bs []), .int .i64 0, .sl (List.map GTerm.c [])] [(3, .app 37)])], []⟩) [] [3, 4] [3, 4] [] (by kernel_rfl) ?_
        refine Wc.exit ?_
        obtain rfl := Option.some.inj h203
        exact ⟨_, rfl, rfl⟩
  · rintro st ⟨c202_, rfl, rfl⟩
    refine Wc.seq ?_
    refine Wc.region [] [] [4] [4] [] ⟨[(4, (.ptr 4 0, []))], [(4, .cells [.int .i64 c202_.gKind, .str c202_.gName, .int .i64 c202_.gNum, .sl (List.map GTerm.c c202_.gKids)] [])], []⟩ _ (by kernel_rfl) .nil ?_
    refine Wc.ret ?_
    obtain rfl := Option.some.inj h
    exact ⟨.inl rfl, by kernel_rfl, by kernel_rfl⟩

/-- impl.JoinedLists -/
def pimpl_JoinedLists (k : Nat) (c213_ : GTerm) (c214_ : GTerm) : Option (GTerm × Bool) :=
  (pimpl_ItemsOf k c213_).bind fun g215_ =>
  (pimpl_ItemsOf k c214_).bind fun g216_ =>
  (pimpl_copyTerm k c214_).bind fun c217_ =>
  (pimpl_listOf k g215_.1 c217_).bind fun c218_ =>
  if (!g215_.2) = true then
    some (GTerm.mk 0 (bs []) 0 [], false)
  else
    if (!g216_.2) = true then
      some (GTerm.mk 0 (bs []) 0 [], false)
    else
      (pimpl_TermOk k c218_).bind fun e219_ =>
      if (!e219_) = true then
        some (GTerm.mk 0 (bs []) 0 [], false)
      else
        some (c218_, true)
theorem cimpl_JoinedLists {k : Nat} {c213_ : GTerm} {c214_ : GTerm} {r : GTerm × Bool} (h : pimpl_JoinedLists k c213_ c214_ = some r) : FnO Try.prog 19 [.v (.agg [.int .i64 c213_.gKind, .str c213_.gName, .int .i64 c213_.gNum, .sl (List.map GTerm.c c213_.gKids)]) [], .v (.agg [.int .i64 c214_.gKind, .str c214_.gName, .int .i64 c214_.gNum, .sl (List.map GTerm.c c214_.gKids)]) []] (.v (.tup [.agg [.int .i64 r.1.gKind, .str r.1.gName, .int .i64 r.1.gNum, .sl (List.map GTerm.c r.1.gKids)], .bool r.2]) []) [] := by
  refine FnO.of Try.func19 (rfl : Try.f19.body = some _) (Nat.le_of_ble_eq_true (by kernel_rfl)) (Nat.le_of_ble_eq_true (by kernel_rfl)) ?_
  intro w0 X0 Fin pv0 pb
  unfold pimpl_JoinedLists at h
  refine Wc.seq ?_
  refine Wc.region [] [] [2, 3, 4] [2, 3, 4] [] ⟨[(2, (.ptr 2 0, [])), (3, (.ptr 3 0, [])), (4, (.ptr 4 0, []))], [(2, .cells [.int .i64 c213_.gKind, .str c213_.gName, .int .i64 c213_.gNum, .sl (List.map GTerm.c c213_.gKids)] []), (3, .cells [.int .i64 c214_.gKind, .str c214_.gName, .int .i64 c214_.gNum, .sl (List.map GTerm.c c214_.gKids)] []), (4, .cells [.int .i64 0, .str (bs []), .int .i64 0, .sl (List.map GTerm.c [])] [(3, .app 37)])], []⟩ _ (by kernel_rfl) .nil ?_
  refine Wc.seq ?_
  obtain ⟨g215_, h216, h⟩ := obind h
  refine Wc.region [{}, { r := some (.v (.tup [.sl (List.map GTerm.c g215_.1), .bool g215_.2]) [(0, .app 37)]) }, { tk := [13] }, { tk := [11] }, {}, { tk := [14] }] [] [3, 4, 6, 7] [3, 4] [] ⟨[(3, (.ptr 3 0, [])), (4, (.ptr 4 0, [])), (6, (.v (.sl (List.map GTerm.c g215_.1)), [(0, .app 37)])), (7, (.v (.bool g215_.2), []))], [(3, .cells [.int .i64 c214_.gKind, .str c214_.gName, .int .i64 c214_.gNum, .sl (List.map GTerm.c c214_.gKids)] []), (4, .cells [.int .i64 0, .str (bs []), .int .i64 0, .sl (List.map GTerm.c [])] [(3, .app 37)])], []⟩ _ (by kernel_rfl) (.cons (cimpl_ItemsOf h216) .nil) ?_
  refine Wc.seq ?_
  obtain ⟨g216_, h217, h⟩ := obind h
  refine Wc.region [{}, { r := some (.v (.tup [.sl (List.map GTerm.c g216_.1), .bool g216_.2]) [(0, .app 37)]) }, { tk := [18] }, { tk := [16] }, {}, { tk := [19] }] [] [3, 4, 6, 7, 9] [3, 4] [] ⟨[(3, (.ptr 3 0, [])), (4, (.ptr 4 0, [])), (6, (.v (.sl (List.map GTerm.c g215_.1)), [(0, .app 37)])), (7, (.v (.bool g215_.2), [])), (9, (.v (.bool g216_.2), []))], [(3, .cells [.int .i64 c214_.gKind, .str c214_.gName, .int .i64 c214_.gNum, .sl (List.map GTerm.c c214_.gKids)] []), (4, .cells [.int .i64 0, .str (bs []), .int .i64 0, .sl (List.map GTerm.c [])] [(3, .app 37)])], []⟩ _ (by kernel_rfl) (.cons (cimpl_ItemsOf h217) .nil) ?_
  refine Wc.seq ?_
  obtain ⟨c217_, h218, h⟩ := obind h
  obtain ⟨c218_, h219, h⟩ := obind h
  refine Wc.region [{ tk := [6] }, {}, { r := some (.v (.agg [.int .i64 c217_.gKind, .str c217_.gName, .int .i64 c217_.gNum, .sl (List.map GTerm.c c217_.gKids)]) [(3, .app 37)]) }, { r := some (.v (.agg [.int .i64 c218_.gKind, .str c218_.gName, .int .i64 c218_.gNum, .sl (List.map GTerm.c c218_.gKids)]) []) }] [] [4, 7, 9, 10] [4, 10] [] ⟨[(4, (.ptr 4 0, [])), (7, (.v (.bool g215_.2), [])), (9, (.v (.bool g216_.2), [])), (10, (.ptr 10 0, []))], [(4, .cells [.int .i64 0, .str (bs []), .int .i64 0, .sl (List.map GTerm.c [])] [(3, .app 37)]), (10, .cells [.int .i64 c218_.gKind, .str c218_.gName, .int .i64 c218_.gNum, .sl (List.map GTerm.c c218_.gKids)] [])], []⟩ _ (by kernel_rfl) (.cons (cimpl_copyTerm h218) (.cons (cimpl_listOf h219) .nil)) ?_
  refine Wc.seq ?_
  refine Wc.seq ?_
  rcases oif h with ⟨h220, h⟩ | ⟨h220, h⟩
  · refine Wc.region [{}, {}, { re := some (.bool true) }] [] [4, 10, 35] [4, 10] [] ⟨[(4, (.ptr 4 0, [])), (10, (.ptr 10 0, [])), (35, (.v (.bool true), []))], [(4, .cells [.int .i64 0, .str (bs []), .int .i64 0, .sl (List.map GTerm.c [])] [(3, .app 37)]), (10, .cells [.int .i64 c218_.gKind, .str c218_.gName, .int .i64 c218_.gNum, .sl (List.map GTerm.c c218_.gKids)] [])], []⟩ _ (by kernel_rfl) (.cons (congrArg AV.bool h220) .nil) ?_
    refine Wc.condT rfl (by kernel_rfl) ?_
    refine Wc.seq ?_
    refine Wc.region [{}, { tk := [36] }] [] [4, 5] [4] [] ⟨[(4, (.ptr 4 0, [])), (5, (.v (.bool false), []))], [(4, .cells [.int .i64 0, .str (bs []), .int .i64 0, .sl (List.map GTerm.c [])] [(3, .app 37)])], []⟩ _ (by kernel_rfl) .nil ?_
    refine Wc.fix (st' := ⟨[(4, (.ptr 4 0, [])), (5, (.v (.bool false), []))], [(4, .cells [.int .i64 0, .str (bs []), .int .i64 0, .sl (List.map GTerm.c [])] [])], []⟩) [.un (.b 4 3)] [4, 5] [4] [] (by kernel_rfl) ?_
    refine Wc.ret ?_
    obtain rfl := Option.some.inj h
    exact ⟨.inl rfl, by kernel_rfl, by kernel_rfl⟩
  · rcases oif h with ⟨h221, h⟩ | ⟨h221, h⟩
    · refine Wc.region [{}, {}, { re := some (.bool false) }, {}, {}, {}, { re := some (.bool true) }] [] [4, 10, 35] [4, 10] [] ⟨[(4, (.ptr 4 0, [])), (10, (.ptr 10 0, [])), (35, (.v (.bool true), []))], [(4, .cells [.int .i64 0, .str (bs []), .int .i64 0, .sl (List.map GTerm.c [])] [(3, .app 37)]), (10, .cells [.int .i64 c218_.gKind, .str c218_.gName, .int .i64 c218_.gNum, .sl (List.map GTerm.c c218_.gKids)] [])], []⟩ _ (by kernel_rfl) (.cons (congrArg AV.bool h220) (.cons (congrArg AV.bool h221) .nil)) ?_
      refine Wc.condT rfl (by kernel_rfl) ?_
      refine Wc.seq ?_
      refine Wc.region [{}, { tk := [36] }] [] [4, 5] [4] [] ⟨[(4, (.ptr 4 0, [])), (5, (.v (.bool false), []))], [(4, .cells [.int .i64 0, .str (bs []), .int .i64 0, .sl (List.map GTerm.c [])] [(3, .app 37)])], []⟩ _ (by kernel_rfl) .nil ?_
      refine Wc.fix (st' := ⟨[(4, (.ptr 4 0, [])), (5, (.v (.bool false), []))], [(4, .cells [.int .i64 0, .str (bs []), .int .i64 0, .sl (List.map GTerm.c [])] [])], []⟩) [.un (.b 4 3)] [4, 5] [4] [] (by kernel_rfl) ?_
      refine Wc.ret ?_
      obtain rfl := Option.some.inj h
      exact ⟨.inl rfl, by kernel_rfl, by kernel_rfl⟩
    · obtain ⟨e219_, h222, h⟩ := obind h
      refine Wc.region [{}, {}, { re := some (.bool false) }, {}, {}, {}, { re := some (.bool false) }, {}, { r := some (.v (.bool e219_) []) }] [] [4, 10, 35] [4, 10] [] ⟨[(4, (.ptr 4 0, [])), (10, (.ptr 10 0, [])), (35, (.v (.bool (!e219_)), []))], [(4, .cells [.int .i64 0, .str (bs []), .int .i64 0, .sl (List.map GTerm.c [])] [(3, .app 37)]), (10, .cells [.int .i64 c218_.gKind, .str c218_.gName, .int .i64 c218_.gNum, .sl (List.map GTerm.c c218_.gKids)] [])], []⟩ _ (by kernel_rfl) (.cons (congrArg AV.bool h220) (.cons (congrArg AV.bool h221) (.cons (cimpl_TermOk h222) .nil))) ?_
      rcases oif h with ⟨h223, h⟩ | ⟨h223, h⟩
      · refine Wc.condT h223 (by kernel_rfl) ?_
        refine Wc.seq ?_
        refine Wc.region [{}, { tk := [36] }] [] [4, 5] [4] [] ⟨[(4, (.ptr 4 0, [])), (5, (.v (.bool false), []))], [(4, .cells [.int .i64 0, .str (bs []), .int .i64 0, .sl (List.map GTerm.c [])] [(3, .app 37)])], []⟩ _ (by kernel_rfl) .nil ?_
        refine Wc.fix (st' := ⟨[(4, (.ptr 4 0, [])), (5, (.v (.bool false), []))], [(4, .cells [.int .i64 0, .str (bs []), .int .i64 0, .sl (List.map GTerm.c [])] [])], []⟩) [.un (.b 4 3)] [4, 5] [4] [] (by kernel_rfl) ?_
        refine Wc.ret ?_
        obtain rfl := Option.some.inj h
        exact ⟨.inl rfl, by kernel_rfl, by kernel_rfl⟩
      · refine Wc.condF h223 (by kernel_rfl) ?_
        refine Wc.fix (st' := ⟨[(4, (.ptr 4 0, [])), (10, (.ptr 10 0, []))], [(4, .cells [.int .i64 0, .str (bs []), .int .i64 0, .sl (List.map GTerm.c [])] [(3, .app 37)]), (10, .cells [.int .i64 c218_.gKind, .str c218_.gName, .int .i64 c218_.gNum, .sl (List.map GTerm.c c218_.gKids)] [])], []⟩) [] [4, 10] [4, 10] [] (by kernel_rfl) ?_
        refine Wc.skip ?_
        refine Wc.seq ?_
        refine Wc.region [] [] [4, 5] [4] [] ⟨[(4, (.ptr 4 0, [])), (5, (.v (.bool true), []))], [(4, .cells [.int .i64 c218_.gKind, .str c218_.gName, .int .i64 c218_.gNum, .sl (List.map GTerm.c c218_.gKids)] [])], []⟩ _ (by kernel_rfl) .nil ?_
        refine Wc.ret ?_
        obtain rfl := Option.some.inj h
        exact ⟨.inl rfl, by kernel_rfl, by kernel_rfl⟩

def plaws_eqTermS_L1 (k : Nat) (rlaws_eqTerm : GTerm → GTerm → Option Bool) (rlaws_eqTermS : (List GTerm) → (List GTerm) → Option Bool) (a223_ : List GTerm) (a224_ : List GTerm) : Nat → Int → Option (Out Bool Unit)
  | 0, _ => none
  | m + 1, b225_ =>
    if (decide (b225_ < (a223_.length : Int))) = true then
      (at' a223_ b225_).bind fun c226_ =>
      (at' a224_ b225_).bind fun c227_ =>
      (rlaws_eqTerm c226_ c227_).bind fun e228_ =>
      if (!e228_) = true then
        some (.ret false)
      else
        plaws_eqTermS_L1 k rlaws_eqTerm rlaws_eqTermS a223_ a224_ m (wr.i64 (b225_ + 1))
    else
      some (.done ())
mutual
/-- laws.eqTerm -/
def plaws_eqTerm : Nat → GTerm → GTerm → Option Bool
  | 0, _, _ => none
  | k + 1, c220_, c221_ =>
    if (c220_.gKind != c221_.gKind) = true then
      some false
    else
      if (!(sEq c220_.gName c221_.gName)) = true then
        some false
      else
        if (c220_.gNum != c221_.gNum) = true then
          some false
        else
          (plaws_eqTermS k c220_.gKids c221_.gKids).bind fun e222_ =>
          if (!e222_) = true then
            some false
          else
            some true
/-- laws.eqTermS -/
def plaws_eqTermS : Nat → (List GTerm) → (List GTerm) → Option Bool
  | 0, _, _ => none
  | k + 1, a223_, a224_ =>
    if ((a223_.length : Int) != (a224_.length : Int)) = true then
      some false
    else
      (plaws_eqTermS_L1 k (plaws_eqTerm k) (plaws_eqTermS k) a223_ a224_ k 0).bind fun out1 => match out1 with
      | .ret r => some r
      | .done () =>
        some true
end
theorem all_plaws_eqTerm : ∀ k : Nat, (∀ {c220_ : GTerm} {c221_ : GTerm} {r : Bool}, plaws_eqTerm k c220_ c221_ = some r → FnO Try.prog 20 [.v (.agg [.int .i64 c220_.gKind, .str c220_.gName, .int .i64 c220_.gNum, .sl (List.map GTerm.c c220_.gKids)]) [], .v (.agg [.int .i64 c221_.gKind, .str c221_.gName, .int .i64 c221_.gNum, .sl (List.map GTerm.c c221_.gKids)]) []] (.v (.bool r) []) []) ∧
    (∀ {a223_ : List GTerm} {a224_ : List GTerm} {r : Bool}, plaws_eqTermS k a223_ a224_ = some r → FnO Try.prog 60 [.v (.sl (List.map GTerm.c a223_)) [], .v (.sl (List.map GTerm.c a224_)) []] (.v (.bool r) []) []) := by
  intro k
  induction k with
  | zero =>
    refine ⟨?_, ?_⟩
    · intro c220_ c221_ r h
      exact (onone (by rw [plaws_eqTerm] at h; exact h)).elim
    · intro a223_ a224_ r h
      exact (onone (by rw [plaws_eqTermS] at h; exact h)).elim
  | succ k ih =>
    obtain ⟨ih_plaws_eqTerm, ih_plaws_eqTermS⟩ := ih
    refine ⟨?_, ?_⟩
    · intro c220_ c221_ r h
      rw [plaws_eqTerm] at h
      refine FnO.of Try.func20 (rfl : Try.f20.body = some _) (Nat.le_of_ble_eq_true (by kernel_rfl)) (Nat.le_of_ble_eq_true (by kernel_rfl)) ?_
      intro w0 X0 Fin pv0 pb
      refine Wc.seq ?_
      refine Wc.region [] [] [2, 3] [2, 3] [] ⟨[(2, (.ptr 2 0, [])), (3, (.ptr 3 0, []))], [(2, .cells [.int .i64 c220_.gKind, .str c220_.gName, .int .i64 c220_.gNum, .sl (List.map GTerm.c c220_.gKids)] []), (3, .cells [.int .i64 c221_.gKind, .str c221_.gName, .int .i64 c221_.gNum, .sl (List.map GTerm.c c221_.gKids)] [])], []⟩ _ (by kernel_rfl) .nil ?_
      refine Wc.seq ?_
      refine Wc.seq ?_
      refine Wc.region [] [] [2, 3, 9] [2, 3] [] ⟨[(2, (.ptr 2 0, [])), (3, (.ptr 3 0, [])), (9, (.v (.bool (c220_.gKind != c221_.gKind)), []))], [(2, .cells [.int .i64 c220_.gKind, .str c220_.gName, .int .i64 c220_.gNum, .sl (List.map GTerm.c c220_.gKids)] []), (3, .cells [.int .i64 c221_.gKind, .str c221_.gName, .int .i64 c221_.gNum, .sl (List.map GTerm.c c221_.gKids)] [])], []⟩ _ (by kernel_rfl) .nil ?_
      rcases oif h with ⟨h224, h⟩ | ⟨h224, h⟩
      · refine Wc.condT h224 (by kernel_rfl) ?_
        refine Wc.seq ?_
        refine Wc.region [] [] [4] [] [] ⟨[(4, (.v (.bool false), []))], [], []⟩ _ (by kernel_rfl) .nil ?_
        refine Wc.ret ?_
        obtain rfl := Option.some.inj h
        exact ⟨.inl rfl, by kernel_rfl, by kernel_rfl⟩
      · refine Wc.condF h224 (by kernel_rfl) ?_
        refine Wc.fix (st' := ⟨[(2, (.ptr 2 0, [])), (3, (.ptr 3 0, []))], [(2, .cells [.int .i64 c220_.gKind, .str c220_.gName, .int .i64 c220_.gNum, .sl (List.map GTerm.c c220_.gKids)] []), (3, .cells [.int .i64 c221_.gKind, .str c221_.gName, .int .i64 c221_.gNum, .sl (List.map GTerm.c c221_.gKids)] [])], []⟩) [] [2, 3] [2, 3] [] (by kernel_rfl) ?_
        refine Wc.skip ?_
        refine Wc.seq ?_
        refine Wc.seq ?_
        refine Wc.region [] [] [2, 3, 14] [2, 3] [] ⟨[(2, (.ptr 2 0, [])), (3, (.ptr 3 0, [])), (14, (.v (.bool (!(sEq c220_.gName c221_.gName))), []))], [(2, .cells [.int .i64 c220_.gKind, .str c220_.gName, .int .i64 c220_.gNum, .sl (List.map GTerm.c c220_.gKids)] []), (3, .cells [.int .i64 c221_.gKind, .str c221_.gName, .int .i64 c221_.gNum, .sl (List.map GTerm.c c221_.gKids)] [])], []⟩ _ (by kernel_rfl) .nil ?_
        rcases oif h with ⟨h225, h⟩ | ⟨h225, h⟩
        · refine Wc.condT h225 (by kernel_rfl) ?_
          refine Wc.seq ?_
          refine Wc.region [] [] [4] [] [] ⟨[(4, (.v (.bool false), []))], [], []⟩ _ (by kernel_rfl) .nil ?_
          refine Wc.ret ?_
          obtain rfl := Option.some.inj h
          exact ⟨.inl rfl, by kernel_rfl, by kernel_rfl⟩
        · refine Wc.condF h225 (by kernel_rfl) ?_
          refine Wc.fix (st' := ⟨[(2, (.ptr 2 0, [])), (3, (.ptr 3 0, []))], [(2, .cells [.int .i64 c220_.gKind, .str c220_.gName, .int .i64 c220_.gNum, .sl (List.map GTerm.c c220_.gKids)] []), (3, .cells [.int .i64 c221_.gKind, .str c221_.gName, .int .i64 c221_.gNum, .sl (List.map GTerm.c c221_.gKids)] [])], []⟩) [] [2, 3] [2, 3] [] (by kernel_rfl) ?_
          refine Wc.skip ?_
          refine Wc.seq ?_
          refine Wc.seq ?_
          refine Wc.region [] [] [2, 3, 19] [2, 3] [] ⟨[(2, (.ptr 2 0, [])), (3, (.ptr 3 0, [])), (19, (.v (.bool (c220_.gNum != c221_.gNum)), []))], [(2, .cells [.int .i64 c220_.gKind, .str c220_.gName, .int .i64 c220_.gNum, .sl (List.map GTerm.c c220_.gKids)] []), (3, .cells [.int .i64 c221_.gKind, .str c221_.gName, .int .i64 c221_.gNum, .sl (List.map GTerm.c c221_.gKids)] [])], []⟩ _ (by kernel_rfl) .nil ?_
          rcases oif h with ⟨h226, h⟩ | ⟨h226, h⟩
          · refine Wc.condT h226 (by kernel_rfl) ?_
            refine Wc.seq ?_
            refine Wc.region [] [] [4] [] [] ⟨[(4, (.v (.bool false), []))], [], []⟩ _ (by kernel_rfl) .nil ?_
            refine Wc.ret ?_
            obtain rfl := Option.some.inj h
            exact ⟨.inl rfl, by kernel_rfl, by kernel_rfl⟩
          · refine Wc.condF h226 (by kernel_rfl) ?_
            refine Wc.fix (st' := ⟨[(2, (.ptr 2 0, [])), (3, (.ptr 3 0, []))], [(2, .cells [.int .i64 c220_.gKind, .str c220_.gName, .int .i64 c220_.gNum, .sl (List.map GTerm.c c220_.gKids)] []), (3, .cells [.int .i64 c221_.gKind, .str c221_.gName, .int .i64 c221_.gNum, .sl (List.map GTerm.c c221_.gKids)] [])], []⟩) [] [2, 3] [2, 3] [] (by kernel_rfl) ?_
            refine Wc.skip ?_
            refine Wc.seq ?_
            refine Wc.seq ?_
            obtain ⟨e222_, h227, h⟩ := obind h
            refine Wc.region [{}, {}, {}, {}, { r := some (.v (.bool e222_) []) }] [] [25] [] [] ⟨[(25, (.v (.bool (!e222_)), []))], [], []⟩ _ (by kernel_rfl) (.cons (ih_plaws_eqTermS h227) .nil) ?_
            rcases oif h with ⟨h228, h⟩ | ⟨h228, h⟩
            · refine Wc.condT h228 (by kernel_rfl) ?_
              refine Wc.seq ?_
              refine Wc.region [] [] [4] [] [] ⟨[(4, (.v (.bool false), []))], [], []⟩ _ (by kernel_rfl) .nil ?_
              refine Wc.ret ?_
              obtain rfl := Option.some.inj h
              exact ⟨.inl rfl, by kernel_rfl, by kernel_rfl⟩
            · refine Wc.condF h228 (by kernel_rfl) ?_
              refine Wc.fix (st' := ⟨[], [], []⟩) [] [] [] [] (by kernel_rfl) ?_
              refine Wc.skip ?_
              refine Wc.seq ?_
              refine Wc.region [] [] [4] [] [] ⟨[(4, (.v (.bool true), []))], [], []⟩ _ (by kernel_rfl) .nil ?_
              refine Wc.ret ?_
              obtain rfl := Option.some.inj h
              exact ⟨.inl rfl, by kernel_rfl, by kernel_rfl⟩
    · intro a223_ a224_ r h
      rw [plaws_eqTermS] at h
      refine FnO.of Try.func60 (rfl : Try.f60.body = some _) (Nat.le_of_ble_eq_true (by kernel_rfl)) (Nat.le_of_ble_eq_true (by kernel_rfl)) ?_
      intro w0 X0 Fin pv0 pb
      refine Wc.seq ?_
      refine Wc.region [] [] [0, 1] [] [] ⟨[(0, (.v (.sl (List.map GTerm.c a223_)), [])), (1, (.v (.sl (List.map GTerm.c a224_)), []))], [], []⟩ _ (by kernel_rfl) .nil ?_
      refine Wc.seq ?_
      refine Wc.seq ?_
      refine Wc.region [{}, { v := some (.int .i64 (a223_.length : Int)) }, {}, { v := some (.int .i64 (a224_.length : Int)) }] [] [0, 1, 10] [] [] ⟨[(0, (.v (.sl (List.map GTerm.c a223_)), [])), (1, (.v (.sl (List.map GTerm.c a224_)), [])), (10, (.v (.bool ((a223_.length : Int) != (a224_.length : Int))), []))], [], []⟩ _ (by kernel_rfl) (.cons (len_obl GTerm.c a223_) (.cons (len_obl GTerm.c a224_) .nil)) ?_
      rcases oif h with ⟨h229, h⟩ | ⟨h229, h⟩
      · refine Wc.condT h229 (by kernel_rfl) ?_
        refine Wc.seq ?_
        refine Wc.region [] [] [4] [] [] ⟨[(4, (.v (.bool false), []))], [], []⟩ _ (by kernel_rfl) .nil ?_
        refine Wc.ret ?_
        obtain rfl := Option.some.inj h
        exact ⟨.inl rfl, by kernel_rfl, by kernel_rfl⟩
      · refine Wc.condF h229 (by kernel_rfl) ?_
        refine Wc.fix (st' := ⟨[(0, (.v (.sl (List.map GTerm.c a223_)), [])), (1, (.v (.sl (List.map GTerm.c a224_)), []))], [], []⟩) [] [0, 1] [] [] (by kernel_rfl) ?_
        refine Wc.skip ?_
        refine Wc.seq ?_
        refine Wc.seq ?_
        refine Wc.region [] [] [0, 1, 5] [] [] ⟨[(0, (.v (.sl (List.map GTerm.c a223_)), [])), (1, (.v (.sl (List.map GTerm.c a224_)), [])), (5, (.v (.int .i64 0), []))], [], []⟩ _ (by kernel_rfl) .nil ?_
        obtain ⟨out1, h230, h⟩ := obind h
        refine Wc.lastJ (fun st => out1 = .done () ∧ st = ⟨[], [], []⟩) ?_ ?_
        · refine Wc.block ?_
          refine Wc.loop (fun m st => ∃ (b225_ : Int), st = ⟨[(0, (.v (.sl (List.map GTerm.c a223_)), [])), (1, (.v (.sl (List.map GTerm.c a224_)), [])), (5, (.v (.int .i64 b225_), []))], [], []⟩ ∧ plaws_eqTermS_L1 k (plaws_eqTerm k) (plaws_eqTermS k) a223_ a224_ m b225_ = some out1) ?_ k ⟨_, rfl, h230⟩
          rintro m st ⟨b225_, rfl, h230⟩
          cases m with
          | zero => exact (onone h230).elim
          | succ m =>
            refine Wc.seq ?_
            refine Wc.seq ?_
            refine Wc.region [{}, {}, { v := some (.int .i64 (a223_.length : Int)) }] [] [0, 1, 5, 14] [] [] ⟨[(0, (.v (.sl (List.map GTerm.c a223_)), [])), (1, (.v (.sl (List.map GTerm.c a224_)), [])), (5, (.v (.int .i64 b225_), [])), (14, (.v (.bool (decide (b225_ < (a223_.length : Int)))), []))], [], []⟩ _ (by kernel_rfl) (.cons (len_obl GTerm.c a223_) .nil) ?_
            rcases oif h230 with ⟨h231, h230⟩ | ⟨h231, h230⟩
            · refine Wc.condT h231 (by kernel_rfl) ?_
              refine Wc.fix (st' := ⟨[(0, (.v (.sl (List.map GTerm.c a223_)), [])), (1, (.v (.sl (List.map GTerm.c a224_)), [])), (5, (.v (.int .i64 b225_), []))], [], []⟩) [] [0, 1, 5] [] [] (by kernel_rfl) ?_
              refine Wc.skip ?_
              refine Wc.seq ?_
              refine Wc.block ?_
              refine Wc.seq ?_
              obtain ⟨c226_, h232, h230⟩ := obind h230
              obtain ⟨c227_, h233, h230⟩ := obind h230
              obtain ⟨e228_, h234, h230⟩ := obind h230
              refine Wc.draw hmix [{}, {}, { v := some (.vptr [.int .i64 c226_.gKind, .str c226_.gName, .int .i64 c226_.gNum, .sl (List.map GTerm.c c226_.gKids)]) }, {}, {}, {}, { v := some (.vptr [.int .i64 c227_.gKind, .str c227_.gName, .int .i64 c227_.gNum, .sl (List.map GTerm.c c227_.gKids)]) }, {}, { r := some (.v (.bool e228_) []) }] [] [0, 1, 5, 26] [] [] ⟨[(0, (.v (.sl (List.map GTerm.c a223_)), [])), (1, (.v (.sl (List.map GTerm.c a224_)), [])), (5, (.v (.int .i64 b225_), [])), (26, (.v (.bool (!e228_)), []))], [], []⟩ _ (by kernel_rfl) (fun X => by kernel_rfl) (.cons (at_obl (c := GTerm.c) (GTerm.c_eq c226_) GTerm.c_len h232) (.cons (len_ok 4 [.int .i64 c226_.gKind, .str c226_.gName, .int .i64 c226_.gNum, .sl (List.map GTerm.c c226_.gKids)]) (.cons (at_obl (c := GTerm.c) (GTerm.c_eq c227_) GTerm.c_len h233) (.cons (len_ok 4 [.int .i64 c227_.gKind, .str c227_.gName, .int .i64 c227_.gNum, .sl (List.map GTerm.c c227_.gKids)]) (.cons (ih_plaws_eqTerm h234) .nil))))) ?_
              rcases oif h230 with ⟨h235, h230⟩ | ⟨h235, h230⟩
              · refine Wc.condT h235 (by kernel_rfl) ?_
                refine Wc.seq ?_
                refine Wc.region [] [] [4] [] [] ⟨[(4, (.v (.bool false), []))], [], []⟩ _ (by kernel_rfl) .nil ?_
                refine Wc.ret ?_
                obtain rfl := Option.some.inj h230
                obtain rfl := Option.some.inj h
                exact ⟨.inl rfl, by kernel_rfl, by kernel_rfl⟩
              · refine Wc.condF h235 (by kernel_rfl) ?_
                refine Wc.fix (st' := ⟨[(0, (.v (.sl (List.map GTerm.c a223_)), [])), (1, (.v (.sl (List.map GTerm.c a224_)), [])), (5, (.v (.int .i64 b225_), []))], [], []⟩) [] [0, 1, 5] [] [] (by kernel_rfl) ?_
                refine Wc.skip ?_
                refine Wc.region [] [] [0, 1, 5] [] [] ⟨[(0, (.v (.sl (List.map GTerm.c a223_)), [])), (1, (.v (.sl (List.map GTerm.c a224_)), [])), (5, (.v (.int .i64 (wr.i64 (b225_ + 1))), []))], [], []⟩ _ (by kernel_rfl) .nil ?_
                exact ⟨_, Nat.lt_succ_self _, _, rfl, h230⟩
            · refine Wc.condF h231 (by kernel_rfl) ?_
              refine Wc.fix (st' := ⟨[], [], []⟩) [] [] [] [] (by kernel_rfl) ?_
              refine Wc.exit ?_
              obtain rfl := Option.some.inj h230
              exact ⟨rfl, rfl⟩
        · rintro st ⟨rfl, rfl⟩
          refine Wc.seq ?_
          refine Wc.region [] [] [4] [] [] ⟨[(4, (.v (.bool true), []))], [], []⟩ _ (by kernel_rfl) .nil ?_
          refine Wc.ret ?_
          obtain rfl := Option.some.inj h
          exact ⟨.inl rfl, by kernel_rfl, by kernel_rfl⟩
theorem claws_eqTerm {k : Nat} {c220_ : GTerm} {c221_ : GTerm} {r : Bool} (h : plaws_eqTerm k c220_ c221_ = some r) : FnO Try.prog 20 [.v (.agg [.int .i64 c220_.gKind, .str c220_.gName, .int .i64 c220_.gNum, .sl (List.map GTerm.c c220_.gKids)]) [], .v (.agg [.int .i64 c221_.gKind, .str c221_.gName, .int .i64 c221_.gNum, .sl (List.map GTerm.c c221_.gKids)]) []] (.v (.bool r) []) [] := (all_plaws_eqTerm k).1 h
theorem claws_eqTermS {k : Nat} {a223_ : List GTerm} {a224_ : List GTerm} {r : Bool} (h : plaws_eqTermS k a223_ a224_ = some r) : FnO Try.prog 60 [.v (.sl (List.map GTerm.c a223_)) [], .v (.sl (List.map GTerm.c a224_)) []] (.v (.bool r) []) [] := (all_plaws_eqTerm k).2 h

def plaws_markText_L1 (k : Nat) : Nat → Int → ByteArray → Option (Out ByteArray ByteArray)
  | 0, _, _ => none
  | m + 1, b230_, d231_ =>
    if (decide (b230_ > 0)) = true then
      if (10 : Int) ≠ 0 then
        if sumOk (strOfNums [wr.u8 (wr.i64 (48 + (Int.tmod b230_ 10)))]) d231_ then
          if (10 : Int) ≠ 0 then
            plaws_markText_L1 k m (wr.i64 (Int.tdiv b230_ 10)) ((strOfNums [wr.u8 (wr.i64 (48 + (Int.tmod b230_ 10)))]) ++ d231_)
          else none
        else none
      else none
    else
      some (.done d231_)
/-- laws.markText -/
def plaws_markText (k : Nat) (b229_ : Int) : Option ByteArray :=
  if (decide (b229_ ≤ 0)) = true then
    some (bs [109, 48])
  else
    (plaws_markText_L1 k k b229_ (bs [])).bind fun out1 => match out1 with
    | .ret r => some r
    | .done d232_ =>
      if sumOk (bs [109]) d232_ then
        some ((bs [109]) ++ d232_)
      else none
theorem claws_markText {k : Nat} {b229_ : Int} {r : ByteArray} (h : plaws_markText k b229_ = some r) : FnO Try.prog 51 [.v (.int .i64 b229_) []] (.v (.str r) []) [] := by
  refine FnO.of Try.func51 (rfl : Try.f51.body = some _) (Nat.le_of_ble_eq_true (by kernel_rfl)) (Nat.le_of_ble_eq_true (by kernel_rfl)) ?_
  intro w0 X0 Fin pv0 pb
  unfold plaws_markText at h
  refine Wc.seq ?_
  refine Wc.region [] [] [0] [] [] ⟨[(0, (.v (.int .i64 b229_), []))], [], []⟩ _ (by kernel_rfl) .nil ?_
  refine Wc.seq ?_
  refine Wc.seq ?_
  refine Wc.region [] [] [0, 5] [] [] ⟨[(0, (.v (.int .i64 b229_), [])), (5, (.v (.bool (decide (b229_ ≤ 0))), []))], [], []⟩ _ (by kernel_rfl) .nil ?_
  rcases oif h with ⟨h236, h⟩ | ⟨h236, h⟩
  · refine Wc.condT h236 (by kernel_rfl) ?_
    refine Wc.seq ?_
    refine Wc.region [] [] [2] [] [] ⟨[(2, (.v (.str (bs [109, 48])), []))], [], []⟩ _ (by kernel_rfl) .nil ?_
    refine Wc.ret ?_
    obtain rfl := Option.some.inj h
    exact ⟨.inl rfl, by kernel_rfl, by kernel_rfl⟩
  · refine Wc.condF h236 (by kernel_rfl) ?_
    refine Wc.fix (st' := ⟨[(0, (.v (.int .i64 b229_), []))], [], []⟩) [] [0] [] [] (by kernel_rfl) ?_
    refine Wc.skip ?_
    refine Wc.seq ?_
    refine Wc.region [] [] [0, 3] [] [] ⟨[(0, (.v (.int .i64 b229_), [])), (3, (.v (.str (bs [])), []))], [], []⟩ _ (by kernel_rfl) .nil ?_
    obtain ⟨out1, h237, h⟩ := obind h
    refine Wc.seqJ (fun st => ∃ (d232_ : ByteArray), out1 = .done d232_ ∧ st = ⟨[(3, (.v (.str d232_), []))], [], []⟩) ?_ ?_
    · refine Wc.block ?_
      refine Wc.loop (fun m st => ∃ (b230_ : Int) (d231_ : ByteArray), st = ⟨[(0, (.v (.int .i64 b230_), [])), (3, (.v (.str d231_), []))], [], []⟩ ∧ plaws_markText_L1 k m b230_ d231_ = some out1) ?_ k ⟨_, _, rfl, h237⟩
      rintro m st ⟨b230_, d231_, rfl, h237⟩
      cases m with
      | zero => exact (onone h237).elim
      | succ m =>
        refine Wc.seq ?_
        refine Wc.seq ?_
        refine Wc.region [] [] [0, 3, 7] [] [] ⟨[(0, (.v (.int .i64 b230_), [])), (3, (.v (.str d231_), [])), (7, (.v (.bool (decide (b230_ > 0))), []))], [], []⟩ _ (by kernel_rfl) .nil ?_
        rcases oif h237 with ⟨h238, h237⟩ | ⟨h238, h237⟩
        · refine Wc.condT h238 (by kernel_rfl) ?_
          refine Wc.fix (st' := ⟨[(0, (.v (.int .i64 b230_), [])), (3, (.v (.str d231_), []))], [], []⟩) [] [0, 3] [] [] (by kernel_rfl) ?_
          refine Wc.skip ?_
          refine Wc.block ?_
          refine Wc.seq ?_
          obtain ⟨h239, h237⟩ := oguard h237
          obtain ⟨h240, h237⟩ := oguard h237
          refine Wc.region [{}, {}, {}, {}, { c := some (List.map cI.u8 [wr.u8 (wr.i64 (48 + (Int.tmod b230_ 10)))]) }, { v := some (.str (strOfNums [wr.u8 (wr.i64 (48 + (Int.tmod b230_ 10)))])) }] [] [0, 3] [] [] ⟨[(0, (.v (.int .i64 b230_), [])), (3, (.v (.str ((strOfNums [wr.u8 (wr.i64 (48 + (Int.tmod b230_ 10)))]) ++ d231_)), []))], [], []⟩ _ (by kernel_rfl) (.cons h239 (.cons (cl_cons (c := cI.u8) (x := wr.u8 (wr.i64 (48 + (Int.tmod b230_ 10)))) rfl (cl_nil cI.u8)) (.cons (bytes_obl [wr.u8 (wr.i64 (48 + (Int.tmod b230_ 10)))]) (.cons h240 .nil)))) ?_
          obtain ⟨h241, h237⟩ := oguard h237
          refine Wc.region [] [] [0, 3] [] [] ⟨[(0, (.v (.int .i64 (wr.i64 (Int.tdiv b230_ 10))), [])), (3, (.v (.str ((strOfNums [wr.u8 (wr.i64 (48 + (Int.tmod b230_ 10)))]) ++ d231_)), []))], [], []⟩ _ (by kernel_rfl) (.cons h241 .nil) ?_
          exact ⟨_, Nat.lt_succ_self _, _, _, rfl, h237⟩
        · refine Wc.condF h238 (by kernel_rfl) ?_
          refine Wc.fix (st' := ⟨[(3, (.v (.str d231_), []))], [], []⟩) [] [3] [] [] (by kernel_rfl) ?_
          refine Wc.exit ?_
          obtain rfl := Option.some.inj h237
          exact ⟨_, rfl, rfl⟩
    · rintro st ⟨d232_, rfl, rfl⟩
      refine Wc.seq ?_
      obtain ⟨h242, h⟩ := oguard h
      refine Wc.region [] [] [2] [] [] ⟨[(2, (.v (.str ((bs [109]) ++ d232_)), []))], [], []⟩ _ (by kernel_rfl) (.cons h242 .nil) ?_
      refine Wc.ret ?_
      obtain rfl := Option.some.inj h
      exact ⟨.inl rfl, by kernel_rfl, by kernel_rfl⟩

def plaws_markTermS_L1 (k : Nat) (rlaws_markTermS : (List GTerm) → Int → Option ((List GTerm) × Int)) : Nat → Int → Int → (List GTerm) → Option (Out ((List GTerm) × Int) (Int × (List GTerm)))
  | 0, _, _, _ => none
  | m + 1, b235_, b236_, a237_ =>
    if (decide (b236_ < (a237_.length : Int))) = true then
      (at' a237_ b236_).bind fun c240_ =>
      (plaws_markText k (wr.i64 (b235_ + 1))).bind fun d241_ =>
      (at' (a237_.set ((b236_).toNat) (GTerm.mk b235_ c240_.gName c240_.gNum c240_.gKids)) b236_).bind fun c242_ =>
      (at' ((a237_.set ((b236_).toNat) (GTerm.mk b235_ c240_.gName c240_.gNum c240_.gKids)).set ((b236_).toNat) (GTerm.mk c242_.gKind d241_ c242_.gNum c242_.gKids)) b236_).bind fun c243_ =>
      (at' (((a237_.set ((b236_).toNat) (GTerm.mk b235_ c240_.gName c240_.gNum c240_.gKids)).set ((b236_).toNat) (GTerm.mk c242_.gKind d241_ c242_.gNum c242_.gKids)).set ((b236_).toNat) (GTerm.mk c243_.gKind c243_.gName (wr.i64 ((wr.i64 (b235_ + 1)) + 1)) c243_.gKids)) b236_).bind fun c244_ =>
      (rlaws_markTermS c244_.gKids (wr.i64 ((wr.i64 ((wr.i64 (b235_ + 1)) + 1)) + 1))).bind fun j245_ =>
      plaws_markTermS_L1 k rlaws_markTermS m j245_.2 (wr.i64 (b236_ + 1)) ((((a237_.set ((b236_).toNat) (GTerm.mk b235_ c240_.gName c240_.gNum c240_.gKids)).set ((b236_).toNat) (GTerm.mk c242_.gKind d241_ c242_.gNum c242_.gKids)).set ((b236_).toNat) (GTerm.mk c243_.gKind c243_.gName (wr.i64 ((wr.i64 (b235_ + 1)) + 1)) c243_.gKids)).set ((b236_).toNat) (GTerm.mk c244_.gKind c244_.gName c244_.gNum j245_.1))
    else
      some (.done (b235_, a237_))
mutual
/-- laws.markTermS -/
def plaws_markTermS : Nat → (List GTerm) → Int → Option ((List GTerm) × Int)
  | 0, _, _ => none
  | k + 1, a233_, b234_ =>
    (plaws_markTermS_L1 k (plaws_markTermS k) k b234_ 0 a233_).bind fun out1 => match out1 with
    | .ret r => some r
    | .done (b238_, a239_) =>
      some (a239_, b238_)
end
theorem all_plaws_markTermS : ∀ k : Nat, (∀ {a233_ : List GTerm} {b234_ : Int} {r : (List GTerm) × Int}, plaws_markTermS k a233_ b234_ = some r → FnO Try.prog 61 [.io (.slx) [(0, .ex 1000000007 true (List.map GTerm.c a233_))], .v (.int .i64 b234_) []] (.v (.int .i64 r.2) []) [(0, .v .undef [(0, .ex 1000000007 true (List.map GTerm.c r.1))])]) := by
  intro k
  induction k with
  | zero =>
    · intro a233_ b234_ r h
      exact (onone (by rw [plaws_markTermS] at h; exact h)).elim
  | succ k ih =>
    have ih_plaws_markTermS := @ih
    · intro a233_ b234_ r h
      rw [plaws_markTermS] at h
      refine FnO.of Try.func61 (rfl : Try.f61.body = some _) (Nat.le_of_ble_eq_true (by kernel_rfl)) (Nat.le_of_ble_eq_true (by kernel_rfl)) ?_
      intro w0 X0 Fin pv0 pb
      refine Wc.seq ?_
      refine Wc.region [] [] [0, 1] [] [0] ⟨[(0, (.v (.slx), [(0, .al (.a 0 0) [])])), (1, (.v (.int .i64 b234_), []))], [], [(0, [(0, .ex 1000000007 true (List.map GTerm.c a233_))])]⟩ _ (by kernel_rfl) .nil ?_
      refine Wc.seq ?_
      refine Wc.seq ?_
      refine Wc.region [] [] [0, 1, 5] [] [0] ⟨[(0, (.v (.slx), [(0, .al (.a 0 0) [])])), (1, (.v (.int .i64 b234_), [])), (5, (.v (.int .i64 0), []))], [], [(0, [(0, .ex 1000000007 true (List.map GTerm.c a233_))])]⟩ _ (by kernel_rfl) .nil ?_
      obtain ⟨out1, h243, h⟩ := obind h
      refine Wc.lastJ (fun st => ∃ (b238_ : Int) (a239_ : List GTerm), out1 = .done (b238_, a239_) ∧ st = ⟨[(1, (.v (.int .i64 b238_), []))], [], [(0, [(0, .ex 1000000007 true (List.map GTerm.c a239_))])]⟩) ?_ ?_
      · refine Wc.block ?_
        refine Wc.loop (fun m st => ∃ (b235_ : Int) (b236_ : Int) (a237_ : List GTerm), st = ⟨[(0, (.v (.slx), [(0, .al (.a 0 0) [])])), (1, (.v (.int .i64 b235_), [])), (5, (.v (.int .i64 b236_), []))], [], [(0, [(0, .ex 1000000007 true (List.map GTerm.c a237_))])]⟩ ∧ plaws_markTermS_L1 k (plaws_markTermS k) m b235_ b236_ a237_ = some out1) ?_ k ⟨_, _, _, rfl, h243⟩
        rintro m st ⟨b235_, b236_, a237_, rfl, h243⟩
        cases m with
        | zero => exact (onone h243).elim
        | succ m =>
          refine Wc.seq ?_
          refine Wc.seq ?_
          refine Wc.region [{}, {}, { v := some (.int .i64 (a237_.length : Int)) }] [] [0, 1, 5, 9] [] [0] ⟨[(0, (.v (.slx), [(0, .al (.a 0 0) [])])), (1, (.v (.int .i64 b235_), [])), (5, (.v (.int .i64 b236_), [])), (9, (.v (.bool (decide (b236_ < (a237_.length : Int)))), []))], [], [(0, [(0, .ex 1000000007 true (List.map GTerm.c a237_))])]⟩ _ (by kernel_rfl) (.cons (len_obl GTerm.c a237_) .nil) ?_
          rcases oif h243 with ⟨h244, h243⟩ | ⟨h244, h243⟩
          · refine Wc.condT h244 (by kernel_rfl) ?_
            refine Wc.fix (st' := ⟨[(0, (.v (.slx), [(0, .al (.a 0 0) [])])), (1, (.v (.int .i64 b235_), [])), (5, (.v (.int .i64 b236_), []))], [], [(0, [(0, .ex 1000000007 true (List.map GTerm.c a237_))])]⟩) [] [0, 1, 5] [] [0] (by kernel_rfl) ?_
            refine Wc.skip ?_
            refine Wc.seq ?_
            refine Wc.block ?_
            refine Wc.seq ?_
            obtain ⟨c240_, h245, h243⟩ := obind h243
            refine Wc.region [{}, {}, {}, {}, {}, { c := some (List.map GTerm.c (a237_.set ((b236_).toNat) (GTerm.mk b235_ c240_.gName c240_.gNum c240_.gKids))) }] [] [0, 1, 5] [] [0] ⟨[(0, (.v (.slx), [(0, .al (.a 0 0) [])])), (1, (.v (.int .i64 b235_), [])), (5, (.v (.int .i64 b236_), []))], [], [(0, [(0, .ex 1000000007 true (List.map GTerm.c (a237_.set ((b236_).toNat) (GTerm.mk b235_ c240_.gName c240_.gNum c240_.gKids))))])]⟩ _ (by kernel_rfl) (.cons (ix_obl (c := GTerm.c) GTerm.c_len h245) (.cons (mod_obl (off := 0) (new := [.int .i64 b235_]) (c := GTerm.c) (GTerm.c_eq c240_) (GTerm.c_eq (GTerm.mk b235_ c240_.gName c240_.gNum c240_.gKids)) (at'_spec h245).2 rfl) (.cons (st_obl (sz := 4) (off := 0) (s := 1) (c := GTerm.c) (GTerm.c_eq c240_) (at'_spec h245).2 rfl (Nat.le_of_ble_eq_true rfl)) .nil))) ?_
            refine Wc.seq ?_
            refine Wc.region [] [] [0, 1, 5] [] [0] ⟨[(0, (.v (.slx), [(0, .al (.a 0 0) [])])), (1, (.v (.int .i64 (wr.i64 (b235_ + 1))), [])), (5, (.v (.int .i64 b236_), []))], [], [(0, [(0, .ex 1000000007 true (List.map GTerm.c (a237_.set ((b236_).toNat) (GTerm.mk b235_ c240_.gName c240_.gNum c240_.gKids))))])]⟩ _ (by kernel_rfl) .nil ?_
            refine Wc.seq ?_
            obtain ⟨d241_, h246, h243⟩ := obind h243
            obtain ⟨c242_, h247, h243⟩ := obind h243
            refine Wc.region [{}, {}, {}, { r := some (.v (.str d241_) []) }, {}, {}, { c := some (List.map GTerm.c ((a237_.set ((b236_).toNat) (GTerm.mk b235_ c240_.gName c240_.gNum c240_.gKids)).set ((b236_).toNat) (GTerm.mk c242_.gKind d241_ c242_.gNum c242_.gKids))) }] [] [0, 1, 5] [] [0] ⟨[(0, (.v (.slx), [(0, .al (.a 0 0) [])])), (1, (.v (.int .i64 (wr.i64 (b235_ + 1))), [])), (5, (.v (.int .i64 b236_), []))], [], [(0, [(0, .ex 1000000007 true (List.map GTerm.c ((a237_.set ((b236_).toNat) (GTerm.mk b235_ c240_.gName c240_.gNum c240_.gKids)).set ((b236_).toNat) (GTerm.mk c242_.gKind d241_ c242_.gNum c242_.gKids))))])]⟩ _ (by kernel_rfl) (.cons (claws_markText h246) (.cons (ix_obl (c := GTerm.c) GTerm.c_len h247) (.cons (mod_obl (off := 1) (new := [.str d241_]) (c := GTerm.c) (GTerm.c_eq c242_) (GTerm.c_eq (GTerm.mk c242_.gKind d241_ c242_.gNum c242_.gKids)) (at'_spec h247).2 rfl) (.cons (st_obl (sz := 4) (off := 1) (s := 1) (c := GTerm.c) (GTerm.c_eq c242_) (at'_spec h247).2 rfl (Nat.le_of_ble_eq_true rfl)) .nil)))) ?_
            refine Wc.seq ?_
            refine Wc.region [] [] [0, 1, 5] [] [0] ⟨[(0, (.v (.slx), [(0, .al (.a 0 0) [])])), (1, (.v (.int .i64 (wr.i64 ((wr.i64 (b235_ + 1)) + 1))), [])), (5, (.v (.int .i64 b236_), []))], [], [(0, [(0, .ex 1000000007 true (List.map GTerm.c ((a237_.set ((b236_).toNat) (GTerm.mk b235_ c240_.gName c240_.gNum c240_.gKids)).set ((b236_).toNat) (GTerm.mk c242_.gKind d241_ c242_.gNum c242_.gKids))))])]⟩ _ (by kernel_rfl) .nil ?_
            refine Wc.seq ?_
            obtain ⟨c243_, h248, h243⟩ := obind h243
            refine Wc.region [{}, {}, {}, {}, {}, { c := some (List.map GTerm.c (((a237_.set ((b236_).toNat) (GTerm.mk b235_ c240_.gName c240_.gNum c240_.gKids)).set ((b236_).toNat) (GTerm.mk c242_.gKind d241_ c242_.gNum c242_.gKids)).set ((b236_).toNat) (GTerm.mk c243_.gKind c243_.gName (wr.i64 ((wr.i64 (b235_ + 1)) + 1)) c243_.gKids))) }] [] [0, 1, 5] [] [0] ⟨[(0, (.v (.slx), [(0, .al (.a 0 0) [])])), (1, (.v (.int .i64 (wr.i64 ((wr.i64 (b235_ + 1)) + 1))), [])), (5, (.v (.int .i64 b236_), []))], [], [(0, [(0, .ex 1000000007 true (List.map GTerm.c (((a237_.set ((b236_).toNat) (GTerm.mk b235_ c240_.gName c240_.gNum c240_.gKids)).set ((b236_).toNat) (GTerm.mk c242_.gKind d241_ c242_.gNum c242_.gKids)).set ((b236_).toNat) (GTerm.mk c243_.gKind c243_.gName (wr.i64 ((wr.i64 (b235_ + 1)) + 1)) c243_.gKids))))])]⟩ _ (by kernel_rfl) (.cons (ix_obl (c := GTerm.c) GTerm.c_len h248) (.cons (mod_obl (off := 2) (new := [.int .i64 (wr.i64 ((wr.i64 (b235_ + 1)) + 1))]) (c := GTerm.c) (GTerm.c_eq c243_) (GTerm.c_eq (GTerm.mk c243_.gKind c243_.gName (wr.i64 ((wr.i64 (b235_ + 1)) + 1)) c243_.gKids)) (at'_spec h248).2 rfl) (.cons (st_obl (sz := 4) (off := 2) (s := 1) (c := GTerm.c) (GTerm.c_eq c243_) (at'_spec h248).2 rfl (Nat.le_of_ble_eq_true rfl)) .nil))) ?_
            refine Wc.seq ?_
            refine Wc.region [] [] [0, 1, 5] [] [0] ⟨[(0, (.v (.slx), [(0, .al (.a 0 0) [])])), (1, (.v (.int .i64 (wr.i64 ((wr.i64 ((wr.i64 (b235_ + 1)) + 1)) + 1))), [])), (5, (.v (.int .i64 b236_), []))], [], [(0, [(0, .ex 1000000007 true (List.map GTerm.c (((a237_.set ((b236_).toNat) (GTerm.mk b235_ c240_.gName c240_.gNum c240_.gKids)).set ((b236_).toNat) (GTerm.mk c242_.gKind d241_ c242_.gNum c242_.gKids)).set ((b236_).toNat) (GTerm.mk c243_.gKind c243_.gName (wr.i64 ((wr.i64 (b235_ + 1)) + 1)) c243_.gKids))))])]⟩ _ (by kernel_rfl) .nil ?_
            obtain ⟨c244_, h249, h243⟩ := obind h243
            obtain ⟨j245_, h250, h243⟩ := obind h243
            refine Wc.region [{}, {}, {}, {}, { v := some (.slx) }, {}, { c := some (List.map GTerm.c ((((a237_.set ((b236_).toNat) (GTerm.mk b235_ c240_.gName c240_.gNum c240_.gKids)).set ((b236_).toNat) (GTerm.mk c242_.gKind d241_ c242_.gNum c242_.gKids)).set ((b236_).toNat) (GTerm.mk c243_.gKind c243_.gName (wr.i64 ((wr.i64 (b235_ + 1)) + 1)) c243_.gKids)).set ((b236_).toNat) (GTerm.mk c244_.gKind c244_.gName c244_.gNum j245_.1))), io := [0], r := some (.v (.int .i64 j245_.2) []), outs := [(0, .v .undef [(0, .ex 1000000007 true (List.map GTerm.c j245_.1))])], ioc := [(0, .ex 1000000007 true (List.map GTerm.c c244_.gKids))] }] [] [0, 1, 5] [] [0] ⟨[(0, (.v (.slx), [(0, .al (.a 0 0) [])])), (1, (.v (.int .i64 j245_.2), [])), (5, (.v (.int .i64 b236_), []))], [], [(0, [(0, .ex 1000000007 true (List.map GTerm.c ((((a237_.set ((b236_).toNat) (GTerm.mk b235_ c240_.gName c240_.gNum c240_.gKids)).set ((b236_).toNat) (GTerm.mk c242_.gKind d241_ c242_.gNum c242_.gKids)).set ((b236_).toNat) (GTerm.mk c243_.gKind c243_.gName (wr.i64 ((wr.i64 (b235_ + 1)) + 1)) c243_.gKids)).set ((b236_).toNat) (GTerm.mk c244_.gKind c244_.gName c244_.gNum j245_.1))))])]⟩ _ (by kernel_rfl) (.cons (ix_obl (c := GTerm.c) GTerm.c_len h249) (.cons (el_oblD (sz := 4) (off := 3) (s := 1) (ag := false) (v := .slx) (c := GTerm.c) (GTerm.c_eq c244_) (at'_spec h249).2 rfl (Nat.le_of_ble_eq_true rfl) rfl) (.cons (own_obl (own := [(0, .al (.a 0 0) [(((b236_).toNat), 4, 3)])]) (p := .a 0 0) (m := (b236_).toNat) (sz := 4) (off := 3) (js := [0]) rfl) (.cons (seg_obl (sz := 4) (off := 3) (n := [.sl (List.map GTerm.c c244_.gKids)]) (c := GTerm.c) (GTerm.c_eq c244_) (at'_spec h249).2 rfl (Nat.le_of_ble_eq_true rfl) rfl) (.cons (mod_obl (off := 3) (new := [.sl (List.map GTerm.c j245_.1)]) (c := GTerm.c) (GTerm.c_eq c244_) (GTerm.c_eq (GTerm.mk c244_.gKind c244_.gName c244_.gNum j245_.1)) (at'_spec h249).2 rfl) (.cons (FnO.any (args := [.io (.slx) [(0, .ex 1000000007 true (List.map GTerm.c c244_.gKids))], .v (.int .i64 (wr.i64 ((wr.i64 ((wr.i64 (b235_ + 1)) + 1)) + 1))) []]) (ih_plaws_markTermS h250)) .nil)))))) ?_
            refine Wc.region [] [] [0, 1, 5] [] [0] ⟨[(0, (.v (.slx), [(0, .al (.a 0 0) [])])), (1, (.v (.int .i64 j245_.2), [])), (5, (.v (.int .i64 (wr.i64 (b236_ + 1))), []))], [], [(0, [(0, .ex 1000000007 true (List.map GTerm.c ((((a237_.set ((b236_).toNat) (GTerm.mk b235_ c240_.gName c240_.gNum c240_.gKids)).set ((b236_).toNat) (GTerm.mk c242_.gKind d241_ c242_.gNum c242_.gKids)).set ((b236_).toNat) (GTerm.mk c243_.gKind c243_.gName (wr.i64 ((wr.i64 (b235_ + 1)) + 1)) c243_.gKids)).set ((b236_).toNat) (GTerm.mk c244_.gKind c244_.gName c244_.gNum j245_.1))))])]⟩ _ (by kernel_rfl) .nil ?_
            exact ⟨_, Nat.lt_succ_self _, _, _, _, rfl, h243⟩
          · refine Wc.condF h244 (by kernel_rfl) ?_
            refine Wc.fix (st' := ⟨[(1, (.v (.int .i64 b235_), []))], [], [(0, [(0, .ex 1000000007 true (List.map GTerm.c a237_))])]⟩) [] [1] [] [0] (by kernel_rfl) ?_
            refine Wc.exit ?_
            obtain rfl := Option.some.inj h243
            exact ⟨_, _, rfl, rfl⟩
      · rintro st ⟨b238_, a239_, rfl, rfl⟩
        refine Wc.seq ?_
        refine Wc.region [] [] [4] [] [0] ⟨[(4, (.v (.int .i64 b238_), []))], [], [(0, [(0, .ex 1000000007 true (List.map GTerm.c a239_))])]⟩ _ (by kernel_rfl) .nil ?_
        refine Wc.ret ?_
        obtain rfl := Option.some.inj h
        exact ⟨.inl rfl, by kernel_rfl, by kernel_rfl⟩
theorem claws_markTermS {k : Nat} {a233_ : List GTerm} {b234_ : Int} {r : (List GTerm) × Int} (h : plaws_markTermS k a233_ b234_ = some r) : FnO Try.prog 61 [.io (.slx) [(0, .ex 1000000007 true (List.map GTerm.c a233_))], .v (.int .i64 b234_) []] (.v (.int .i64 r.2) []) [(0, .v .undef [(0, .ex 1000000007 true (List.map GTerm.c r.1))])] := (all_plaws_markTermS k) h

/-- laws.markTerm -/
def plaws_markTerm (k : Nat) (c246_ : GTerm) (b247_ : Int) : Option (GTerm × Int) :=
  (plaws_markTermS k c246_.gKids b247_).bind fun j248_ =>
  some (GTerm.mk c246_.gKind c246_.gName c246_.gNum j248_.1, j248_.2)
theorem claws_markTerm {k : Nat} {c246_ : GTerm} {b247_ : Int} {r : GTerm × Int} (h : plaws_markTerm k c246_ b247_ = some r) : FnO Try.prog 21 [.io (.agg [.int .i64 c246_.gKind, .str c246_.gName, .int .i64 c246_.gNum, .slx]) [(3, .ex 1000000007 true (List.map GTerm.c c246_.gKids))], .v (.int .i64 b247_) []] (.v (.int .i64 r.2) []) [(0, .v .undef [(3, .ex 1000000007 true (List.map GTerm.c r.1.gKids))])] := by
  refine FnO.of Try.func21 (rfl : Try.f21.body = some _) (Nat.le_of_ble_eq_true (by kernel_rfl)) (Nat.le_of_ble_eq_true (by kernel_rfl)) ?_
  intro w0 X0 Fin pv0 pb
  unfold plaws_markTerm at h
  refine Wc.seq ?_
  refine Wc.region [] [] [1, 2] [2] [0] ⟨[(1, (.v (.int .i64 b247_), [])), (2, (.ptr 2 0, []))], [(2, .cells [.int .i64 c246_.gKind, .str c246_.gName, .int .i64 c246_.gNum, .slx] [(3, .al (.a 0 3) [])])], [(0, [(3, .ex 1000000007 true (List.map GTerm.c c246_.gKids))])]⟩ _ (by kernel_rfl) .nil ?_
  refine Wc.seq ?_
  obtain ⟨j248_, h251, h⟩ := obind h
  refine Wc.region [{}, {}, {}, { io := [0], r := some (.v (.int .i64 j248_.2) []), outs := [(0, .v .undef [(0, .ex 1000000007 true (List.map GTerm.c j248_.1))])] }] [] [1] [] [0] ⟨[(1, (.v (.int .i64 j248_.2), []))], [], [(0, [(3, .ex 1000000007 true (List.map GTerm.c j248_.1))])]⟩ _ (by kernel_rfl) (.cons (FnO.any (args := [.io (.slx) [(0, .ex 1000000007 true (List.map GTerm.c c246_.gKids))], .v (.int .i64 b247_) []]) (claws_markTermS h251)) .nil) ?_
  refine Wc.seq ?_
  refine Wc.region [] [] [4] [] [0] ⟨[(4, (.v (.int .i64 j248_.2), []))], [], [(0, [(3, .ex 1000000007 true (List.map GTerm.c j248_.1))])]⟩ _ (by kernel_rfl) .nil ?_
  refine Wc.ret ?_
  obtain rfl := Option.some.inj h
  exact ⟨.inl rfl, by kernel_rfl, by kernel_rfl⟩
end Go.Proofs.Ytbfkmgenokhkgaa

/- What the functions do, part 1. -/
import Derived.Test.YtmfimfgdbmjkkaaDoorTy
set_option linter.unusedVariables false
set_option linter.unusedSimpArgs false
namespace Go.Proofs.YtmfimfgdbmjkkaaDoor
open Go.RowKit Go.Bv
def plaws_szTermS_L1 (k : Nat) (rlaws_szTerm : GTerm → Int → Option Int) (rlaws_szTermS : (List GTerm) → Int → Option Int) (a4_ : List GTerm) : Nat → Int → Int → Option (Out Int Int)
  | 0, _, _ => none
  | m + 1, b6_, b7_ =>
    if (decide (b7_ < (a4_.length : Int))) = true then
      (at' a4_ b7_).bind fun c9_ =>
      (rlaws_szTerm c9_ b6_).bind fun b10_ =>
      if (decide (b10_ < 0)) = true then
        some (.ret (-1))
      else
        plaws_szTermS_L1 k rlaws_szTerm rlaws_szTermS a4_ m b10_ (wr.i64 (b7_ + 1))
    else
      some (.done b6_)
mutual
/-- laws.szTerm -/
def plaws_szTerm : Nat → GTerm → Int → Option Int
  | 0, _, _ => none
  | k + 1, c1_, b2_ =>
    if (decide ((wr.i64 (b2_ - (c1_.gName.size : Int))) < 0)) = true then
      some (-1)
    else
      (plaws_szTermS k c1_.gKids (wr.i64 (b2_ - (c1_.gName.size : Int)))).bind fun b3_ =>
      if (decide (b3_ < 0)) = true then
        some (-1)
      else
        some b3_
/-- laws.szTermS -/
def plaws_szTermS : Nat → (List GTerm) → Int → Option Int
  | 0, _, _ => none
  | k + 1, a4_, b5_ =>
    if (decide ((wr.i64 (b5_ - (a4_.length : Int))) < 0)) = true then
      some (-1)
    else
      (plaws_szTermS_L1 k (plaws_szTerm k) (plaws_szTermS k) a4_ k (wr.i64 (b5_ - (a4_.length : Int))) 0).bind fun out1 => match out1 with
      | .ret r => some r
      | .done b8_ =>
        some b8_
end
theorem all_plaws_szTerm : ∀ k : Nat, (∀ {c1_ : GTerm} {b2_ : Int} {r : Int}, plaws_szTerm k c1_ b2_ = some r → FnO Tryd.prog 4 [.v (.agg [.int .i64 c1_.gKind, .str c1_.gName, .int .i64 c1_.gNum, .sl (List.map GTerm.c c1_.gKids)]) [], .v (.int .i64 b2_) []] (.v (.int .i64 r) []) []) ∧
    (∀ {a4_ : List GTerm} {b5_ : Int} {r : Int}, plaws_szTermS k a4_ b5_ = some r → FnO Tryd.prog 9 [.v (.sl (List.map GTerm.c a4_)) [], .v (.int .i64 b5_) []] (.v (.int .i64 r) []) []) := by
  intro k
  induction k with
  | zero =>
    refine ⟨?_, ?_⟩
    · intro c1_ b2_ r h
      exact (onone (by rw [plaws_szTerm] at h; exact h)).elim
    · intro a4_ b5_ r h
      exact (onone (by rw [plaws_szTermS] at h; exact h)).elim
  | succ k ih =>
    obtain ⟨ih_plaws_szTerm, ih_plaws_szTermS⟩ := ih
    refine ⟨?_, ?_⟩
    · intro c1_ b2_ r h
      rw [plaws_szTerm] at h
      refine FnO.of Tryd.func4 (rfl : Tryd.f4.body = some _) (Nat.le_of_ble_eq_true (by kernel_rfl)) (Nat.le_of_ble_eq_true (by kernel_rfl)) ?_
      intro w0 X0 Fin pv0 pb gt
      refine Wc.seq ?_
      refine Wc.region [] [] [1, 2] [2] [] ⟨[(1, (.v (.int .i64 b2_), [])), (2, (.ptr 2 0, []))], [(2, .cells [.int .i64 c1_.gKind, .str c1_.gName, .int .i64 c1_.gNum, .sl (List.map GTerm.c c1_.gKids)] [])], []⟩ _ (by kernel_rfl) .nil ?_
      refine Wc.seq ?_
      refine Wc.region [] [] [1, 2] [2] [] ⟨[(1, (.v (.int .i64 (wr.i64 (b2_ - (c1_.gName.size : Int)))), [])), (2, (.ptr 2 0, []))], [(2, .cells [.int .i64 c1_.gKind, .str c1_.gName, .int .i64 c1_.gNum, .sl (List.map GTerm.c c1_.gKids)] [])], []⟩ _ (by kernel_rfl) .nil ?_
      refine Wc.seq ?_
      refine Wc.seq ?_
      refine Wc.region [] [] [1, 2, 11] [2] [] ⟨[(1, (.v (.int .i64 (wr.i64 (b2_ - (c1_.gName.size : Int)))), [])), (2, (.ptr 2 0, [])), (11, (.v (.bool (decide ((wr.i64 (b2_ - (c1_.gName.size : Int))) < 0))), []))], [(2, .cells [.int .i64 c1_.gKind, .str c1_.gName, .int .i64 c1_.gNum, .sl (List.map GTerm.c c1_.gKids)] [])], []⟩ _ (by kernel_rfl) .nil ?_
      rcases oif h with ⟨h1, h⟩ | ⟨h1, h⟩
      · refine Wc.condT h1 (by kernel_rfl) ?_
        refine Wc.seq ?_
        refine Wc.region [] [] [4] [] [] ⟨[(4, (.v (.int .i64 (-1)), []))], [], []⟩ _ (by kernel_rfl) .nil ?_
        refine Wc.ret ?_
        obtain rfl := Option.some.inj h
        exact ⟨.inl rfl, by kernel_rfl, by kernel_rfl⟩
      · refine Wc.condF h1 (by kernel_rfl) ?_
        refine Wc.fix (st' := ⟨[(1, (.v (.int .i64 (wr.i64 (b2_ - (c1_.gName.size : Int)))), [])), (2, (.ptr 2 0, []))], [(2, .cells [.int .i64 c1_.gKind, .str c1_.gName, .int .i64 c1_.gNum, .sl (List.map GTerm.c c1_.gKids)] [])], []⟩) [] [1, 2] [2] [] (by kernel_rfl) ?_
        refine Wc.skip ?_
        refine Wc.seq ?_
        obtain ⟨b3_, h2, h⟩ := obind h
        refine Wc.region [{}, {}, {}, { r := some (.v (.int .i64 b3_) []) }] [] [1] [] [] ⟨[(1, (.v (.int .i64 b3_), []))], [], []⟩ _ (by kernel_rfl) (.cons (ih_plaws_szTermS h2) .nil) ?_
        refine Wc.seq ?_
        refine Wc.seq ?_
        refine Wc.region [] [] [1, 17] [] [] ⟨[(1, (.v (.int .i64 b3_), [])), (17, (.v (.bool (decide (b3_ < 0))), []))], [], []⟩ _ (by kernel_rfl) .nil ?_
        rcases oif h with ⟨h3, h⟩ | ⟨h3, h⟩
        · refine Wc.condT h3 (by kernel_rfl) ?_
          refine Wc.seq ?_
          refine Wc.region [] [] [4] [] [] ⟨[(4, (.v (.int .i64 (-1)), []))], [], []⟩ _ (by kernel_rfl) .nil ?_
          refine Wc.ret ?_
          obtain rfl := Option.some.inj h
          exact ⟨.inl rfl, by kernel_rfl, by kernel_rfl⟩
        · refine Wc.condF h3 (by kernel_rfl) ?_
          refine Wc.fix (st' := ⟨[(1, (.v (.int .i64 b3_), []))], [], []⟩) [] [1] [] [] (by kernel_rfl) ?_
          refine Wc.skip ?_
          refine Wc.seq ?_
          refine Wc.region [] [] [4] [] [] ⟨[(4, (.v (.int .i64 b3_), []))], [], []⟩ _ (by kernel_rfl) .nil ?_
          refine Wc.ret ?_
          obtain rfl := Option.some.inj h
          exact ⟨.inl rfl, by kernel_rfl, by kernel_rfl⟩
    · intro a4_ b5_ r h
      rw [plaws_szTermS] at h
      refine FnO.of Tryd.func9 (rfl : Tryd.f9.body = some _) (Nat.le_of_ble_eq_true (by kernel_rfl)) (Nat.le_of_ble_eq_true (by kernel_rfl)) ?_
      intro w0 X0 Fin pv0 pb gt
      refine Wc.seq ?_
      refine Wc.region [] [] [0, 1] [] [] ⟨[(0, (.v (.sl (List.map GTerm.c a4_)), [])), (1, (.v (.int .i64 b5_), []))], [], []⟩ _ (by kernel_rfl) .nil ?_
      refine Wc.seq ?_
      refine Wc.region [{}, {}, { v := some (.int .i64 (a4_.length : Int)) }] [] [0, 1] [] [] ⟨[(0, (.v (.sl (List.map GTerm.c a4_)), [])), (1, (.v (.int .i64 (wr.i64 (b5_ - (a4_.length : Int)))), []))], [], []⟩ _ (by kernel_rfl) (.cons (len_obl GTerm.c a4_) .nil) ?_
      refine Wc.seq ?_
      refine Wc.seq ?_
      refine Wc.region [] [] [0, 1, 11] [] [] ⟨[(0, (.v (.sl (List.map GTerm.c a4_)), [])), (1, (.v (.int .i64 (wr.i64 (b5_ - (a4_.length : Int)))), [])), (11, (.v (.bool (decide ((wr.i64 (b5_ - (a4_.length : Int))) < 0))), []))], [], []⟩ _ (by kernel_rfl) .nil ?_
      rcases oif h with ⟨h4, h⟩ | ⟨h4, h⟩
      · refine Wc.condT h4 (by kernel_rfl) ?_
        refine Wc.seq ?_
        refine Wc.region [] [] [4] [] [] ⟨[(4, (.v (.int .i64 (-1)), []))], [], []⟩ _ (by kernel_rfl) .nil ?_
        refine Wc.ret ?_
        obtain rfl := Option.some.inj h
        exact ⟨.inl rfl, by kernel_rfl, by kernel_rfl⟩
      · refine Wc.condF h4 (by kernel_rfl) ?_
        refine Wc.fix (st' := ⟨[(0, (.v (.sl (List.map GTerm.c a4_)), [])), (1, (.v (.int .i64 (wr.i64 (b5_ - (a4_.length : Int)))), []))], [], []⟩) [] [0, 1] [] [] (by kernel_rfl) ?_
        refine Wc.skip ?_
        refine Wc.seq ?_
        refine Wc.seq ?_
        refine Wc.region [] [] [0, 1, 5] [] [] ⟨[(0, (.v (.sl (List.map GTerm.c a4_)), [])), (1, (.v (.int .i64 (wr.i64 (b5_ - (a4_.length : Int)))), [])), (5, (.v (.int .i64 0), []))], [], []⟩ _ (by kernel_rfl) .nil ?_
        obtain ⟨out1, h5, h⟩ := obind h
        refine Wc.lastJ (fun st => ∃ (b8_ : Int), out1 = .done b8_ ∧ st = ⟨[(1, (.v (.int .i64 b8_), []))], [], []⟩) ?_ ?_
        · refine Wc.block ?_
          refine Wc.loop (fun m st => ∃ (b6_ : Int) (b7_ : Int), st = ⟨[(0, (.v (.sl (List.map GTerm.c a4_)), [])), (1, (.v (.int .i64 b6_), [])), (5, (.v (.int .i64 b7_), []))], [], []⟩ ∧ plaws_szTermS_L1 k (plaws_szTerm k) (plaws_szTermS k) a4_ m b6_ b7_ = some out1) ?_ k ⟨_, _, rfl, h5⟩
          rintro m st ⟨b6_, b7_, rfl, h5⟩
          cases m with
          | zero => exact (onone h5).elim
          | succ m =>
            refine Wc.seq ?_
            refine Wc.seq ?_
            refine Wc.region [{}, {}, { v := some (.int .i64 (a4_.length : Int)) }] [] [0, 1, 5, 15] [] [] ⟨[(0, (.v (.sl (List.map GTerm.c a4_)), [])), (1, (.v (.int .i64 b6_), [])), (5, (.v (.int .i64 b7_), [])), (15, (.v (.bool (decide (b7_ < (a4_.length : Int)))), []))], [], []⟩ _ (by kernel_rfl) (.cons (len_obl GTerm.c a4_) .nil) ?_
            rcases oif h5 with ⟨h6, h5⟩ | ⟨h6, h5⟩
            · refine Wc.condT h6 (by kernel_rfl) ?_
              refine Wc.fix (st' := ⟨[(0, (.v (.sl (List.map GTerm.c a4_)), [])), (1, (.v (.int .i64 b6_), [])), (5, (.v (.int .i64 b7_), []))], [], []⟩) [] [0, 1, 5] [] [] (by kernel_rfl) ?_
              refine Wc.skip ?_
              refine Wc.seq ?_
              refine Wc.block ?_
              refine Wc.seq ?_
              obtain ⟨c9_, h7, h5⟩ := obind h5
              obtain ⟨b10_, h8, h5⟩ := obind h5
              refine Wc.region [{}, {}, { v := some (.vptr [.int .i64 c9_.gKind, .str c9_.gName, .int .i64 c9_.gNum, .sl (List.map GTerm.c c9_.gKids)]) }, {}, {}, { r := some (.v (.int .i64 b10_) []) }] [] [0, 1, 5] [] [] ⟨[(0, (.v (.sl (List.map GTerm.c a4_)), [])), (1, (.v (.int .i64 b10_), [])), (5, (.v (.int .i64 b7_), []))], [], []⟩ _ (by kernel_rfl) (.cons (at_obl (c := GTerm.c) (GTerm.c_eq c9_) GTerm.c_len h7) (.cons (len_ok 4 [.int .i64 c9_.gKind, .str c9_.gName, .int .i64 c9_.gNum, .sl (List.map GTerm.c c9_.gKids)]) (.cons (ih_plaws_szTerm h8) .nil))) ?_
              refine Wc.seq ?_
              refine Wc.region [] [] [0, 1, 5, 25] [] [] ⟨[(0, (.v (.sl (List.map GTerm.c a4_)), [])), (1, (.v (.int .i64 b10_), [])), (5, (.v (.int .i64 b7_), [])), (25, (.v (.bool (decide (b10_ < 0))), []))], [], []⟩ _ (by kernel_rfl) .nil ?_
              rcases oif h5 with ⟨h9, h5⟩ | ⟨h9, h5⟩
              · refine Wc.condT h9 (by kernel_rfl) ?_
                refine Wc.seq ?_
                refine Wc.region [] [] [4] [] [] ⟨[(4, (.v (.int .i64 (-1)), []))], [], []⟩ _ (by kernel_rfl) .nil ?_
                refine Wc.ret ?_
                obtain rfl := Option.some.inj h5
                obtain rfl := Option.some.inj h
                exact ⟨.inl rfl, by kernel_rfl, by kernel_rfl⟩
              · refine Wc.condF h9 (by kernel_rfl) ?_
                refine Wc.fix (st' := ⟨[(0, (.v (.sl (List.map GTerm.c a4_)), [])), (1, (.v (.int .i64 b10_), [])), (5, (.v (.int .i64 b7_), []))], [], []⟩) [] [0, 1, 5] [] [] (by kernel_rfl) ?_
                refine Wc.skip ?_
                refine Wc.region [] [] [0, 1, 5] [] [] ⟨[(0, (.v (.sl (List.map GTerm.c a4_)), [])), (1, (.v (.int .i64 b10_), [])), (5, (.v (.int .i64 (wr.i64 (b7_ + 1))), []))], [], []⟩ _ (by kernel_rfl) .nil ?_
                exact ⟨_, Nat.lt_succ_self _, _, _, rfl, h5⟩
            · refine Wc.condF h6 (by kernel_rfl) ?_
              refine Wc.fix (st' := ⟨[(1, (.v (.int .i64 b6_), []))], [], []⟩) [] [1] [] [] (by kernel_rfl) ?_
              refine Wc.exit ?_
              obtain rfl := Option.some.inj h5
              exact ⟨_, rfl, rfl⟩
        · rintro st ⟨b8_, rfl, rfl⟩
          refine Wc.seq ?_
          refine Wc.region [] [] [4] [] [] ⟨[(4, (.v (.int .i64 b8_), []))], [], []⟩ _ (by kernel_rfl) .nil ?_
          refine Wc.ret ?_
          obtain rfl := Option.some.inj h
          exact ⟨.inl rfl, by kernel_rfl, by kernel_rfl⟩
theorem claws_szTerm {k : Nat} {c1_ : GTerm} {b2_ : Int} {r : Int} (h : plaws_szTerm k c1_ b2_ = some r) : FnO Tryd.prog 4 [.v (.agg [.int .i64 c1_.gKind, .str c1_.gName, .int .i64 c1_.gNum, .sl (List.map GTerm.c c1_.gKids)]) [], .v (.int .i64 b2_) []] (.v (.int .i64 r) []) [] := (all_plaws_szTerm k).1 h
theorem claws_szTermS {k : Nat} {a4_ : List GTerm} {b5_ : Int} {r : Int} (h : plaws_szTermS k a4_ b5_ = some r) : FnO Tryd.prog 9 [.v (.sl (List.map GTerm.c a4_)) [], .v (.int .i64 b5_) []] (.v (.int .i64 r) []) [] := (all_plaws_szTerm k).2 h

def pspec_l03Count_L1 (k : Nat) (rspec_l03Count : GTerm → Int → Option Int) (c11_ : GTerm) : Nat → Int → Int → Option (Out Int Int)
  | 0, _, _ => none
  | m + 1, b13_, b14_ =>
    if (decide (b14_ < (c11_.gKids.length : Int))) = true then
      if (decide (b13_ ≥ 0)) = true then
        (at' c11_.gKids b14_).bind fun c16_ =>
        (rspec_l03Count c16_ b13_).bind fun b17_ =>
        pspec_l03Count_L1 k rspec_l03Count c11_ m b17_ (wr.i64 (b14_ + 1))
      else
        some (.done b13_)
    else
      some (.done b13_)
mutual
/-- spec.l03Count -/
def pspec_l03Count : Nat → GTerm → Int → Option Int
  | 0, _, _ => none
  | k + 1, c11_, b12_ =>
    (pspec_l03Count_L1 k (pspec_l03Count k) c11_ k (wr.i64 (b12_ - 1)) 0).bind fun out1 => match out1 with
    | .ret r => some r
    | .done b15_ =>
      some b15_
end
theorem all_pspec_l03Count : ∀ k : Nat, (∀ {c11_ : GTerm} {b12_ : Int} {r : Int}, pspec_l03Count k c11_ b12_ = some r → FnO Tryd.prog 16 [.v (.agg [.int .i64 c11_.gKind, .str c11_.gName, .int .i64 c11_.gNum, .sl (List.map GTerm.c c11_.gKids)]) [], .v (.int .i64 b12_) []] (.v (.int .i64 r) []) []) := by
  intro k
  induction k with
  | zero =>
    · intro c11_ b12_ r h
      exact (onone (by rw [pspec_l03Count] at h; exact h)).elim
  | succ k ih =>
    have ih_pspec_l03Count := @ih
    · intro c11_ b12_ r h
      rw [pspec_l03Count] at h
      refine FnO.of Tryd.func16 (rfl : Tryd.f16.body = some _) (Nat.le_of_ble_eq_true (by kernel_rfl)) (Nat.le_of_ble_eq_true (by kernel_rfl)) ?_
      intro w0 X0 Fin pv0 pb gt
      refine Wc.seq ?_
      refine Wc.region [] [] [1, 2] [2] [] ⟨[(1, (.v (.int .i64 b12_), [])), (2, (.ptr 2 0, []))], [(2, .cells [.int .i64 c11_.gKind, .str c11_.gName, .int .i64 c11_.gNum, .sl (List.map GTerm.c c11_.gKids)] [])], []⟩ _ (by kernel_rfl) .nil ?_
      refine Wc.seq ?_
      refine Wc.region [] [] [1, 2] [2] [] ⟨[(1, (.v (.int .i64 (wr.i64 (b12_ - 1))), [])), (2, (.ptr 2 0, []))], [(2, .cells [.int .i64 c11_.gKind, .str c11_.gName, .int .i64 c11_.gNum, .sl (List.map GTerm.c c11_.gKids)] [])], []⟩ _ (by kernel_rfl) .nil ?_
      refine Wc.seq ?_
      refine Wc.seq ?_
      refine Wc.region [] [] [1, 2, 5] [2] [] ⟨[(1, (.v (.int .i64 (wr.i64 (b12_ - 1))), [])), (2, (.ptr 2 0, [])), (5, (.v (.int .i64 0), []))], [(2, .cells [.int .i64 c11_.gKind, .str c11_.gName, .int .i64 c11_.gNum, .sl (List.map GTerm.c c11_.gKids)] [])], []⟩ _ (by kernel_rfl) .nil ?_
      obtain ⟨out1, h10, h⟩ := obind h
      refine Wc.lastJ (fun st => ∃ (b15_ : Int), out1 = .done b15_ ∧ st = ⟨[(1, (.v (.int .i64 b15_), []))], [], []⟩) ?_ ?_
      · refine Wc.block ?_
        refine Wc.loop (fun m st => ∃ (b13_ : Int) (b14_ : Int), st = ⟨[(1, (.v (.int .i64 b13_), [])), (2, (.ptr 2 0, [])), (5, (.v (.int .i64 b14_), []))], [(2, .cells [.int .i64 c11_.gKind, .str c11_.gName, .int .i64 c11_.gNum, .sl (List.map GTerm.c c11_.gKids)] [])], []⟩ ∧ pspec_l03Count_L1 k (pspec_l03Count k) c11_ m b13_ b14_ = some out1) ?_ k ⟨_, _, rfl, h10⟩
        rintro m st ⟨b13_, b14_, rfl, h10⟩
        cases m with
        | zero => exact (onone h10).elim
        | succ m =>
          refine Wc.seq ?_
          refine Wc.seq ?_
          rcases oif h10 with ⟨h11, h10⟩ | ⟨h11, h10⟩
          · refine Wc.region [{}, {}, {}, { v := some (.int .i64 (c11_.gKids.length : Int)) }, {}, { re := some (.bool true) }] [] [1, 2, 5, 16] [2] [] ⟨[(1, (.v (.int .i64 b13_), [])), (2, (.ptr 2 0, [])), (5, (.v (.int .i64 b14_), [])), (16, (.v (.bool (decide (b13_ ≥ 0))), []))], [(2, .cells [.int .i64 c11_.gKind, .str c11_.gName, .int .i64 c11_.gNum, .sl (List.map GTerm.c c11_.gKids)] [])], []⟩ _ (by kernel_rfl) (.cons (len_obl GTerm.c c11_.gKids) (.cons (congrArg AV.bool h11) .nil)) ?_
            rcases oif h10 with ⟨h12, h10⟩ | ⟨h12, h10⟩
            · refine Wc.condT h12 (by kernel_rfl) ?_
              refine Wc.fix (st' := ⟨[(1, (.v (.int .i64 b13_), [])), (2, (.ptr 2 0, [])), (5, (.v (.int .i64 b14_), []))], [(2, .cells [.int .i64 c11_.gKind, .str c11_.gName, .int .i64 c11_.gNum, .sl (List.map GTerm.c c11_.gKids)] [])], []⟩) [] [1, 2, 5] [2] [] (by kernel_rfl) ?_
              refine Wc.skip ?_
              refine Wc.seq ?_
              refine Wc.block ?_
              obtain ⟨c16_, h13, h10⟩ := obind h10
              obtain ⟨b17_, h14, h10⟩ := obind h10
              refine Wc.region [{}, {}, {}, { v := some (.vptr [.int .i64 c16_.gKind, .str c16_.gName, .int .i64 c16_.gNum, .sl (List.map GTerm.c c16_.gKids)]) }, {}, {}, { r := some (.v (.int .i64 b17_) []) }] [] [1, 2, 5] [2] [] ⟨[(1, (.v (.int .i64 b17_), [])), (2, (.ptr 2 0, [])), (5, (.v (.int .i64 b14_), []))], [(2, .cells [.int .i64 c11_.gKind, .str c11_.gName, .int .i64 c11_.gNum, .sl (List.map GTerm.c c11_.gKids)] [])], []⟩ _ (by kernel_rfl) (.cons (at_obl (c := GTerm.c) (GTerm.c_eq c16_) GTerm.c_len h13) (.cons (len_ok 4 [.int .i64 c16_.gKind, .str c16_.gName, .int .i64 c16_.gNum, .sl (List.map GTerm.c c16_.gKids)]) (.cons (ih_pspec_l03Count h14) .nil))) ?_
              refine Wc.region [] [] [1, 2, 5] [2] [] ⟨[(1, (.v (.int .i64 b17_), [])), (2, (.ptr 2 0, [])), (5, (.v (.int .i64 (wr.i64 (b14_ + 1))), []))], [(2, .cells [.int .i64 c11_.gKind, .str c11_.gName, .int .i64 c11_.gNum, .sl (List.map GTerm.c c11_.gKids)] [])], []⟩ _ (by kernel_rfl) .nil ?_
              exact ⟨_, Nat.lt_succ_self _, _, _, rfl, h10⟩
            · refine Wc.condF h12 (by kernel_rfl) ?_
              refine Wc.fix (st' := ⟨[(1, (.v (.int .i64 b13_), []))], [], []⟩) [] [1] [] [] (by kernel_rfl) ?_
              refine Wc.exit ?_
              obtain rfl := Option.some.inj h10
              exact ⟨_, rfl, rfl⟩
          · refine Wc.region [{}, {}, {}, { v := some (.int .i64 (c11_.gKids.length : Int)) }, {}, { re := some (.bool false) }] [] [1, 2, 5, 16] [2] [] ⟨[(1, (.v (.int .i64 b13_), [])), (2, (.ptr 2 0, [])), (5, (.v (.int .i64 b14_), [])), (16, (.v (.bool false), []))], [(2, .cells [.int .i64 c11_.gKind, .str c11_.gName, .int .i64 c11_.gNum, .sl (List.map GTerm.c c11_.gKids)] [])], []⟩ _ (by kernel_rfl) (.cons (len_obl GTerm.c c11_.gKids) (.cons (congrArg AV.bool h11) .nil)) ?_
            refine Wc.condF rfl (by kernel_rfl) ?_
            refine Wc.fix (st' := ⟨[(1, (.v (.int .i64 b13_), []))], [], []⟩) [] [1] [] [] (by kernel_rfl) ?_
            refine Wc.exit ?_
            obtain rfl := Option.some.inj h10
            exact ⟨_, rfl, rfl⟩
      · rintro st ⟨b15_, rfl, rfl⟩
        refine Wc.seq ?_
        refine Wc.region [] [] [4] [] [] ⟨[(4, (.v (.int .i64 b15_), []))], [], []⟩ _ (by kernel_rfl) .nil ?_
        refine Wc.ret ?_
        obtain rfl := Option.some.inj h
        exact ⟨.inl rfl, by kernel_rfl, by kernel_rfl⟩
theorem cspec_l03Count {k : Nat} {c11_ : GTerm} {b12_ : Int} {r : Int} (h : pspec_l03Count k c11_ b12_ = some r) : FnO Tryd.prog 16 [.v (.agg [.int .i64 c11_.gKind, .str c11_.gName, .int .i64 c11_.gNum, .sl (List.map GTerm.c c11_.gKids)]) [], .v (.int .i64 b12_) []] (.v (.int .i64 r) []) [] := (all_pspec_l03Count k) h

/-- spec.l01In -/
def pspec_l01In (k : Nat) (b18_ : Int) (b19_ : Int) (b20_ : Int) : Option Bool :=
  if (decide (b18_ ≥ b19_)) = true then
    some (decide (b18_ ≤ b20_))
  else
    some false
theorem cspec_l01In {k : Nat} {b18_ : Int} {b19_ : Int} {b20_ : Int} {r : Bool} (h : pspec_l01In k b18_ b19_ b20_ = some r) : FnO Tryd.prog 41 [.v (.int .i64 b18_) [], .v (.int .i64 b19_) [], .v (.int .i64 b20_) []] (.v (.bool r) []) [] := by
  refine FnO.of Tryd.func41 (rfl : Tryd.f41.body = some _) (Nat.le_of_ble_eq_true (by kernel_rfl)) (Nat.le_of_ble_eq_true (by kernel_rfl)) ?_
  intro w0 X0 Fin pv0 pb gt
  unfold pspec_l01In at h
  refine Wc.seq ?_
  refine Wc.region [] [] [0, 1, 2] [] [] ⟨[(0, (.v (.int .i64 b18_), [])), (1, (.v (.int .i64 b19_), [])), (2, (.v (.int .i64 b20_), []))], [], []⟩ _ (by kernel_rfl) .nil ?_
  refine Wc.seq ?_
  rcases oif h with ⟨h15, h⟩ | ⟨h15, h⟩
  · refine Wc.region [{}, {}, {}, { re := some (.bool true) }] [] [6] [] [] ⟨[(6, (.v (.bool (decide (b18_ ≤ b20_))), []))], [], []⟩ _ (by kernel_rfl) (.cons (congrArg AV.bool h15) .nil) ?_
    refine Wc.ret ?_
    obtain rfl := Option.some.inj h
    exact ⟨.inl rfl, by kernel_rfl, by kernel_rfl⟩
  · refine Wc.region [{}, {}, {}, { re := some (.bool false) }] [] [6] [] [] ⟨[(6, (.v (.bool false), []))], [], []⟩ _ (by kernel_rfl) (.cons (congrArg AV.bool h15) .nil) ?_
    refine Wc.ret ?_
    obtain rfl := Option.some.inj h
    exact ⟨.inl rfl, by kernel_rfl, by kernel_rfl⟩

def pspec_l03Name_L1 (k : Nat) (d21_ : ByteArray) : Nat → Int → Option (Out Bool Unit)
  | 0, _ => none
  | m + 1, b22_ =>
    if (decide (b22_ < (d21_.size : Int))) = true then
      if 0 ≤ b22_ ∧ (b22_).toNat < d21_.size then
        if (decide ((bt d21_ b22_) < 33)) = true then
          some (.ret false)
        else
          if 0 ≤ b22_ ∧ (b22_).toNat < d21_.size then
            if (decide ((bt d21_ b22_) > 126)) = true then
              some (.ret false)
            else
              if 0 ≤ b22_ ∧ (b22_).toNat < d21_.size then
                if ((bt d21_ b22_) == 39) = true then
                  some (.ret false)
                else
                  if 0 ≤ b22_ ∧ (b22_).toNat < d21_.size then
                    if ((bt d21_ b22_) == 34) = true then
                      some (.ret false)
                    else
                      pspec_l03Name_L1 k d21_ m (wr.i64 (b22_ + 1))
                  else none
              else none
          else none
      else none
    else
      some (.done ())
/-- spec.l03Name -/
def pspec_l03Name (k : Nat) (d21_ : ByteArray) : Option Bool :=
  (pspec_l03Name_L1 k d21_ k 0).bind fun out1 => match out1 with
  | .ret r => some r
  | .done () =>
    (pspec_l01In k (d21_.size : Int) 1 20).bind fun e23_ =>
    some e23_
theorem cspec_l03Name {k : Nat} {d21_ : ByteArray} {r : Bool} (h : pspec_l03Name k d21_ = some r) : FnO Tryd.prog 42 [.v (.str d21_) []] (.v (.bool r) []) [] := by
  refine FnO.of Tryd.func42 (rfl : Tryd.f42.body = some _) (Nat.le_of_ble_eq_true (by kernel_rfl)) (Nat.le_of_ble_eq_true (by kernel_rfl)) ?_
  intro w0 X0 Fin pv0 pb gt
  unfold pspec_l03Name at h
  refine Wc.seq ?_
  refine Wc.region [] [] [0] [] [] ⟨[(0, (.v (.str d21_), []))], [], []⟩ _ (by kernel_rfl) .nil ?_
  refine Wc.seq ?_
  refine Wc.seq ?_
  refine Wc.region [] [] [0, 3] [] [] ⟨[(0, (.v (.str d21_), [])), (3, (.v (.int .i64 0), []))], [], []⟩ _ (by kernel_rfl) .nil ?_
  obtain ⟨out1, h16, h⟩ := obind h
  refine Wc.lastJ (fun st => out1 = .done () ∧ st = ⟨[(0, (.v (.str d21_), []))], [], []⟩) ?_ ?_
  · refine Wc.block ?_
    refine Wc.loop (fun m st => ∃ (b22_ : Int), st = ⟨[(0, (.v (.str d21_), [])), (3, (.v (.int .i64 b22_), []))], [], []⟩ ∧ pspec_l03Name_L1 k d21_ m b22_ = some out1) ?_ k ⟨_, rfl, h16⟩
    rintro m st ⟨b22_, rfl, h16⟩
    cases m with
    | zero => exact (onone h16).elim
    | succ m =>
      refine Wc.seq ?_
      refine Wc.seq ?_
      refine Wc.region [] [] [0, 3, 7] [] [] ⟨[(0, (.v (.str d21_), [])), (3, (.v (.int .i64 b22_), [])), (7, (.v (.bool (decide (b22_ < (d21_.size : Int)))), []))], [], []⟩ _ (by kernel_rfl) .nil ?_
      rcases oif h16 with ⟨h17, h16⟩ | ⟨h17, h16⟩
      · refine Wc.condT h17 (by kernel_rfl) ?_
        refine Wc.fix (st' := ⟨[(0, (.v (.str d21_), [])), (3, (.v (.int .i64 b22_), []))], [], []⟩) [] [0, 3] [] [] (by kernel_rfl) ?_
        refine Wc.skip ?_
        refine Wc.seq ?_
        refine Wc.block ?_
        refine Wc.seq ?_
        obtain ⟨h18, h16⟩ := oguard h16
        rcases oif h16 with ⟨h19, h16⟩ | ⟨h19, h16⟩
        · refine Wc.region [{}, {}, {}, {}, { re := some (.bool true) }] [] [0, 3, 31] [] [] ⟨[(0, (.v (.str d21_), [])), (3, (.v (.int .i64 b22_), [])), (31, (.v (.bool true), []))], [], []⟩ _ (by kernel_rfl) (.cons h18 (.cons (congrArg AV.bool h19) .nil)) ?_
          refine Wc.condT rfl (by kernel_rfl) ?_
          refine Wc.seq ?_
          refine Wc.region [] [] [2] [] [] ⟨[(2, (.v (.bool false), []))], [], []⟩ _ (by kernel_rfl) .nil ?_
          refine Wc.ret ?_
          obtain rfl := Option.some.inj h16
          obtain rfl := Option.some.inj h
          exact ⟨.inl rfl, by kernel_rfl, by kernel_rfl⟩
        · obtain ⟨h20, h16⟩ := oguard h16
          rcases oif h16 with ⟨h21, h16⟩ | ⟨h21, h16⟩
          · refine Wc.region [{}, {}, {}, {}, { re := some (.bool false) }, {}, {}, {}, {}, {}, { re := some (.bool true) }] [] [0, 3, 31] [] [] ⟨[(0, (.v (.str d21_), [])), (3, (.v (.int .i64 b22_), [])), (31, (.v (.bool true), []))], [], []⟩ _ (by kernel_rfl) (.cons h18 (.cons (congrArg AV.bool h19) (.cons h20 (.cons (congrArg AV.bool h21) .nil)))) ?_
            refine Wc.condT rfl (by kernel_rfl) ?_
            refine Wc.seq ?_
            refine Wc.region [] [] [2] [] [] ⟨[(2, (.v (.bool false), []))], [], []⟩ _ (by kernel_rfl) .nil ?_
            refine Wc.ret ?_
            obtain rfl := Option.some.inj h16
            obtain rfl := Option.some.inj h
            exact ⟨.inl rfl, by kernel_rfl, by kernel_rfl⟩
          · obtain ⟨h22, h16⟩ := oguard h16
            rcases oif h16 with ⟨h23, h16⟩ | ⟨h23, h16⟩
            · refine Wc.region [{}, {}, {}, {}, { re := some (.bool false) }, {}, {}, {}, {}, {}, { re := some (.bool false) }, {}, {}, {}, {}, {}, { re := some (.bool true) }] [] [0, 3, 31] [] [] ⟨[(0, (.v (.str d21_), [])), (3, (.v (.int .i64 b22_), [])), (31, (.v (.bool true), []))], [], []⟩ _ (by kernel_rfl) (.cons h18 (.cons (congrArg AV.bool h19) (.cons h20 (.cons (congrArg AV.bool h21) (.cons h22 (.cons (congrArg AV.bool h23) .nil)))))) ?_
              refine Wc.condT rfl (by kernel_rfl) ?_
              refine Wc.seq ?_
              refine Wc.region [] [] [2] [] [] ⟨[(2, (.v (.bool false), []))], [], []⟩ _ (by kernel_rfl) .nil ?_
              refine Wc.ret ?_
              obtain rfl := Option.some.inj h16
              obtain rfl := Option.some.inj h
              exact ⟨.inl rfl, by kernel_rfl, by kernel_rfl⟩
            · obtain ⟨h24, h16⟩ := oguard h16
              refine Wc.region [{}, {}, {}, {}, { re := some (.bool false) }, {}, {}, {}, {}, {}, { re := some (.bool false) }, {}, {}, {}, {}, {}, { re := some (.bool false) }] [] [0, 3, 31] [] [] ⟨[(0, (.v (.str d21_), [])), (3, (.v (.int .i64 b22_), [])), (31, (.v (.bool ((bt d21_ b22_) == 34)), []))], [], []⟩ _ (by kernel_rfl) (.cons h18 (.cons (congrArg AV.bool h19) (.cons h20 (.cons (congrArg AV.bool h21) (.cons h22 (.cons (congrArg AV.bool h23) (.cons h24 .nil))))))) ?_
              rcases oif h16 with ⟨h25, h16⟩ | ⟨h25, h16⟩
              · refine Wc.condT h25 (by kernel_rfl) ?_
                refine Wc.seq ?_
                refine Wc.region [] [] [2] [] [] ⟨[(2, (.v (.bool false), []))], [], []⟩ _ (by kernel_rfl) .nil ?_
                refine Wc.ret ?_
                obtain rfl := Option.some.inj h16
                obtain rfl := Option.some.inj h
                exact ⟨.inl rfl, by kernel_rfl, by kernel_rfl⟩
              · refine Wc.condF h25 (by kernel_rfl) ?_
                refine Wc.fix (st' := ⟨[(0, (.v (.str d21_), [])), (3, (.v (.int .i64 b22_), []))], [], []⟩) [] [0, 3] [] [] (by kernel_rfl) ?_
                refine Wc.skip ?_
                refine Wc.region [] [] [0, 3] [] [] ⟨[(0, (.v (.str d21_), [])), (3, (.v (.int .i64 (wr.i64 (b22_ + 1))), []))], [], []⟩ _ (by kernel_rfl) .nil ?_
                exact ⟨_, Nat.lt_succ_self _, _, rfl, h16⟩
      · refine Wc.condF h17 (by kernel_rfl) ?_
        refine Wc.fix (st' := ⟨[(0, (.v (.str d21_), []))], [], []⟩) [] [0] [] [] (by kernel_rfl) ?_
        refine Wc.exit ?_
        obtain rfl := Option.some.inj h16
        exact ⟨rfl, rfl⟩
  · rintro st ⟨rfl, rfl⟩
    refine Wc.seq ?_
    obtain ⟨e23_, h26, h⟩ := obind h
    refine Wc.region [{}, {}, { r := some (.v (.bool e23_) []) }] [] [2] [] [] ⟨[(2, (.v (.bool e23_), []))], [], []⟩ _ (by kernel_rfl) (.cons (cspec_l01In h26) .nil) ?_
    refine Wc.ret ?_
    obtain rfl := Option.some.inj h
    exact ⟨.inl rfl, by kernel_rfl, by kernel_rfl⟩

/-- spec.l03One -/
def pspec_l03One (k : Nat) (c24_ : GTerm) : Option Bool :=
  if (c24_.gKind == 1) = true then
    (pspec_l01In k c24_.gNum 0 99999).bind fun e25_ =>
    if e25_ = true then
      if (sEq c24_.gName (bs [])) = true then
        some ((c24_.gKids.length : Int) == 0)
      else
        some false
    else
      some false
  else
    if (c24_.gKind == 2) = true then
      (pspec_l03Name k c24_.gName).bind fun e26_ =>
      if e26_ = true then
        if (c24_.gNum == 0) = true then
          some ((c24_.gKids.length : Int) == 0)
        else
          some false
      else
        some false
    else
      if (c24_.gKind == 3) = true then
        (pspec_l01In k c24_.gNum (-999999999) 999999999).bind fun e27_ =>
        if e27_ = true then
          if (sEq c24_.gName (bs [])) = true then
            some ((c24_.gKids.length : Int) == 0)
          else
            some false
        else
          some false
      else
        if (c24_.gKind == 4) = true then
          (pspec_l03Name k c24_.gName).bind fun e28_ =>
          if e28_ = true then
            if (c24_.gNum == 0) = true then
              (pspec_l01In k (c24_.gKids.length : Int) 1 5).bind fun e29_ =>
              some e29_
            else
              some false
          else
            some false
        else
          some false
theorem cspec_l03One {k : Nat} {c24_ : GTerm} {r : Bool} (h : pspec_l03One k c24_ = some r) : FnO Tryd.prog 28 [.v (.agg [.int .i64 c24_.gKind, .str c24_.gName, .int .i64 c24_.gNum, .sl (List.map GTerm.c c24_.gKids)]) []] (.v (.bool r) []) [] := by
  refine FnO.of Tryd.func28 (rfl : Tryd.f28.body = some _) (Nat.le_of_ble_eq_true (by kernel_rfl)) (Nat.le_of_ble_eq_true (by kernel_rfl)) ?_
  intro w0 X0 Fin pv0 pb gt
  unfold pspec_l03One at h
  refine Wc.seq ?_
  refine Wc.region [] [] [1] [1] [] ⟨[(1, (.ptr 1 0, []))], [(1, .cells [.int .i64 c24_.gKind, .str c24_.gName, .int .i64 c24_.gNum, .sl (List.map GTerm.c c24_.gKids)] [])], []⟩ _ (by kernel_rfl) .nil ?_
  refine Wc.seq ?_
  refine Wc.seq ?_
  refine Wc.region [] [] [1, 4] [1] [] ⟨[(1, (.ptr 1 0, [])), (4, (.v (.int .i64 c24_.gKind), []))], [(1, .cells [.int .i64 c24_.gKind, .str c24_.gName, .int .i64 c24_.gNum, .sl (List.map GTerm.c c24_.gKids)] [])], []⟩ _ (by kernel_rfl) .nil ?_
  refine Wc.block ?_
  refine Wc.seq ?_
  refine Wc.region [] [] [1, 4, 5] [1] [] ⟨[(1, (.ptr 1 0, [])), (4, (.v (.int .i64 c24_.gKind), [])), (5, (.v (.bool (c24_.gKind == 1)), []))], [(1, .cells [.int .i64 c24_.gKind, .str c24_.gName, .int .i64 c24_.gNum, .sl (List.map GTerm.c c24_.gKids)] [])], []⟩ _ (by kernel_rfl) .nil ?_
  rcases oif h with ⟨h27, h⟩ | ⟨h27, h⟩
  · refine Wc.condT h27 (by kernel_rfl) ?_
    refine Wc.seq ?_
    obtain ⟨e25_, h28, h⟩ := obind h
    rcases oif h with ⟨h29, h⟩ | ⟨h29, h⟩
    · rcases oif h with ⟨h30, h⟩ | ⟨h30, h⟩
      · refine Wc.region [{}, {}, { r := some (.v (.bool e25_) []) }, { re := some (.bool true) }, {}, {}, {}, {}, { re := some (.bool true) }, {}, {}, { v := some (.int .i64 (c24_.gKids.length : Int)) }] [] [2] [] [] ⟨[(2, (.v (.bool ((c24_.gKids.length : Int) == 0)), []))], [], []⟩ _ (by kernel_rfl) (.cons (cspec_l01In h28) (.cons (congrArg AV.bool h29) (.cons (congrArg AV.bool h30) (.cons (len_obl GTerm.c c24_.gKids) .nil)))) ?_
        refine Wc.ret ?_
        obtain rfl := Option.some.inj h
        exact ⟨.inl rfl, by kernel_rfl, by kernel_rfl⟩
      · refine Wc.region [{}, {}, { r := some (.v (.bool e25_) []) }, { re := some (.bool true) }, {}, {}, {}, {}, { re := some (.bool false) }] [] [2] [] [] ⟨[(2, (.v (.bool false), []))], [], []⟩ _ (by kernel_rfl) (.cons (cspec_l01In h28) (.cons (congrArg AV.bool h29) (.cons (congrArg AV.bool h30) .nil))) ?_
        refine Wc.ret ?_
        obtain rfl := Option.some.inj h
        exact ⟨.inl rfl, by kernel_rfl, by kernel_rfl⟩
    · refine Wc.region [{}, {}, { r := some (.v (.bool e25_) []) }, { re := some (.bool false) }] [] [2] [] [] ⟨[(2, (.v (.bool false), []))], [], []⟩ _ (by kernel_rfl) (.cons (cspec_l01In h28) (.cons (congrArg AV.bool h29) .nil)) ?_
      refine Wc.ret ?_
      obtain rfl := Option.some.inj h
      exact ⟨.inl rfl, by kernel_rfl, by kernel_rfl⟩
  · refine Wc.condF h27 (by kernel_rfl) ?_
    refine Wc.seq ?_
    refine Wc.region [] [] [1, 4, 21] [1] [] ⟨[(1, (.ptr 1 0, [])), (4, (.v (.int .i64 c24_.gKind), [])), (21, (.v (.bool (c24_.gKind == 2)), []))], [(1, .cells [.int .i64 c24_.gKind, .str c24_.gName, .int .i64 c24_.gNum, .sl (List.map GTerm.c c24_.gKids)] [])], []⟩ _ (by kernel_rfl) .nil ?_
    rcases oif h with ⟨h31, h⟩ | ⟨h31, h⟩
    · refine Wc.condT h31 (by kernel_rfl) ?_
      refine Wc.seq ?_
      obtain ⟨e26_, h32, h⟩ := obind h
      rcases oif h with ⟨h33, h⟩ | ⟨h33, h⟩
      · rcases oif h with ⟨h34, h⟩ | ⟨h34, h⟩
        · refine Wc.region [{}, {}, { r := some (.v (.bool e26_) []) }, { re := some (.bool true) }, {}, {}, {}, {}, { re := some (.bool true) }, {}, {}, { v := some (.int .i64 (c24_.gKids.length : Int)) }] [] [2] [] [] ⟨[(2, (.v (.bool ((c24_.gKids.length : Int) == 0)), []))], [], []⟩ _ (by kernel_rfl) (.cons (cspec_l03Name h32) (.cons (congrArg AV.bool h33) (.cons (congrArg AV.bool h34) (.cons (len_obl GTerm.c c24_.gKids) .nil)))) ?_
          refine Wc.ret ?_
          obtain rfl := Option.some.inj h
          exact ⟨.inl rfl, by kernel_rfl, by kernel_rfl⟩
        · refine Wc.region [{}, {}, { r := some (.v (.bool e26_) []) }, { re := some (.bool true) }, {}, {}, {}, {}, { re := some (.bool false) }] [] [2] [] [] ⟨[(2, (.v (.bool false), []))], [], []⟩ _ (by kernel_rfl) (.cons (cspec_l03Name h32) (.cons (congrArg AV.bool h33) (.cons (congrArg AV.bool h34) .nil))) ?_
          refine Wc.ret ?_
          obtain rfl := Option.some.inj h
          exact ⟨.inl rfl, by kernel_rfl, by kernel_rfl⟩
      · refine Wc.region [{}, {}, { r := some (.v (.bool e26_) []) }, { re := some (.bool false) }] [] [2] [] [] ⟨[(2, (.v (.bool false), []))], [], []⟩ _ (by kernel_rfl) (.cons (cspec_l03Name h32) (.cons (congrArg AV.bool h33) .nil)) ?_
        refine Wc.ret ?_
        obtain rfl := Option.some.inj h
        exact ⟨.inl rfl, by kernel_rfl, by kernel_rfl⟩
    · refine Wc.condF h31 (by kernel_rfl) ?_
      refine Wc.seq ?_
      refine Wc.region [] [] [1, 4, 37] [1] [] ⟨[(1, (.ptr 1 0, [])), (4, (.v (.int .i64 c24_.gKind), [])), (37, (.v (.bool (c24_.gKind == 3)), []))], [(1, .cells [.int .i64 c24_.gKind, .str c24_.gName, .int .i64 c24_.gNum, .sl (List.map GTerm.c c24_.gKids)] [])], []⟩ _ (by kernel_rfl) .nil ?_
      rcases oif h with ⟨h35, h⟩ | ⟨h35, h⟩
      · refine Wc.condT h35 (by kernel_rfl) ?_
        refine Wc.seq ?_
        obtain ⟨e27_, h36, h⟩ := obind h
        rcases oif h with ⟨h37, h⟩ | ⟨h37, h⟩
        · rcases oif h with ⟨h38, h⟩ | ⟨h38, h⟩
          · refine Wc.region [{}, {}, { r := some (.v (.bool e27_) []) }, { re := some (.bool true) }, {}, {}, {}, {}, { re := some (.bool true) }, {}, {}, { v := some (.int .i64 (c24_.gKids.length : Int)) }] [] [2] [] [] ⟨[(2, (.v (.bool ((c24_.gKids.length : Int) == 0)), []))], [], []⟩ _ (by kernel_rfl) (.cons (cspec_l01In h36) (.cons (congrArg AV.bool h37) (.cons (congrArg AV.bool h38) (.cons (len_obl GTerm.c c24_.gKids) .nil)))) ?_
            refine Wc.ret ?_
            obtain rfl := Option.some.inj h
            exact ⟨.inl rfl, by kernel_rfl, by kernel_rfl⟩
          · refine Wc.region [{}, {}, { r := some (.v (.bool e27_) []) }, { re := some (.bool true) }, {}, {}, {}, {}, { re := some (.bool false) }] [] [2] [] [] ⟨[(2, (.v (.bool false), []))], [], []⟩ _ (by kernel_rfl) (.cons (cspec_l01In h36) (.cons (congrArg AV.bool h37) (.cons (congrArg AV.bool h38) .nil))) ?_
            refine Wc.ret ?_
            obtain rfl := Option.some.inj h
            exact ⟨.inl rfl, by kernel_rfl, by kernel_rfl⟩
        · refine Wc.region [{}, {}, { r := some (.v (.bool e27_) []) }, { re := some (.bool false) }] [] [2] [] [] ⟨[(2, (.v (.bool false), []))], [], []⟩ _ (by kernel_rfl) (.cons (cspec_l01In h36) (.cons (congrArg AV.bool h37) .nil)) ?_
          refine Wc.ret ?_
          obtain rfl := Option.some.inj h
          exact ⟨.inl rfl, by kernel_rfl, by kernel_rfl⟩
      · refine Wc.condF h35 (by kernel_rfl) ?_
        refine Wc.seq ?_
        refine Wc.region [] [] [1, 53] [1] [] ⟨[(1, (.ptr 1 0, [])), (53, (.v (.bool (c24_.gKind == 4)), []))], [(1, .cells [.int .i64 c24_.gKind, .str c24_.gName, .int .i64 c24_.gNum, .sl (List.map GTerm.c c24_.gKids)] [])], []⟩ _ (by kernel_rfl) .nil ?_
        rcases oif h with ⟨h39, h⟩ | ⟨h39, h⟩
        · refine Wc.condT h39 (by kernel_rfl) ?_
          refine Wc.seq ?_
          obtain ⟨e28_, h40, h⟩ := obind h
          rcases oif h with ⟨h41, h⟩ | ⟨h41, h⟩
          · rcases oif h with ⟨h42, h⟩ | ⟨h42, h⟩
            · obtain ⟨e29_, h43, h⟩ := obind h
              refine Wc.region [{}, {}, { r := some (.v (.bool e28_) []) }, { re := some (.bool true) }, {}, {}, {}, {}, { re := some (.bool true) }, {}, {}, { v := some (.int .i64 (c24_.gKids.length : Int)) }, { r := some (.v (.bool e29_) []) }] [] [2] [] [] ⟨[(2, (.v (.bool e29_), []))], [], []⟩ _ (by kernel_rfl) (.cons (cspec_l03Name h40) (.cons (congrArg AV.bool h41) (.cons (congrArg AV.bool h42) (.cons (len_obl GTerm.c c24_.gKids) (.cons (cspec_l01In h43) .nil))))) ?_
              refine Wc.ret ?_
              obtain rfl := Option.some.inj h
              exact ⟨.inl rfl, by kernel_rfl, by kernel_rfl⟩
            · refine Wc.region [{}, {}, { r := some (.v (.bool e28_) []) }, { re := some (.bool true) }, {}, {}, {}, {}, { re := some (.bool false) }] [] [2] [] [] ⟨[(2, (.v (.bool false), []))], [], []⟩ _ (by kernel_rfl) (.cons (cspec_l03Name h40) (.cons (congrArg AV.bool h41) (.cons (congrArg AV.bool h42) .nil))) ?_
              refine Wc.ret ?_
              obtain rfl := Option.some.inj h
              exact ⟨.inl rfl, by kernel_rfl, by kernel_rfl⟩
          · refine Wc.region [{}, {}, { r := some (.v (.bool e28_) []) }, { re := some (.bool false) }] [] [2] [] [] ⟨[(2, (.v (.bool false), []))], [], []⟩ _ (by kernel_rfl) (.cons (cspec_l03Name h40) (.cons (congrArg AV.bool h41) .nil)) ?_
            refine Wc.ret ?_
            obtain rfl := Option.some.inj h
            exact ⟨.inl rfl, by kernel_rfl, by kernel_rfl⟩
        · refine Wc.condF h39 (by kernel_rfl) ?_
          refine Wc.fix (st' := ⟨[], [], []⟩) [] [] [] [] (by kernel_rfl) ?_
          refine Wc.skip ?_
          refine Wc.seq ?_
          refine Wc.region [] [] [2] [] [] ⟨[(2, (.v (.bool false), []))], [], []⟩ _ (by kernel_rfl) .nil ?_
          refine Wc.ret ?_
          obtain rfl := Option.some.inj h
          exact ⟨.inl rfl, by kernel_rfl, by kernel_rfl⟩

def pspec_l03Right_L1 (k : Nat) (rspec_l03Right : GTerm → Int → Option Bool) (c30_ : GTerm) (b31_ : Int) : Nat → Int → Option (Out Bool Unit)
  | 0, _ => none
  | m + 1, b33_ =>
    if (decide (b33_ < (c30_.gKids.length : Int))) = true then
      (at' c30_.gKids b33_).bind fun c34_ =>
      (rspec_l03Right c34_ (wr.i64 (b31_ + 1))).bind fun e35_ =>
      if (!e35_) = true then
        some (.ret false)
      else
        pspec_l03Right_L1 k rspec_l03Right c30_ b31_ m (wr.i64 (b33_ + 1))
    else
      some (.done ())
mutual
/-- spec.l03Right -/
def pspec_l03Right : Nat → GTerm → Int → Option Bool
  | 0, _, _ => none
  | k + 1, c30_, b31_ =>
    if (decide (b31_ > 40)) = true then
      some false
    else
      (pspec_l03One k c30_).bind fun e32_ =>
      if (!e32_) = true then
        some false
      else
        (pspec_l03Right_L1 k (pspec_l03Right k) c30_ b31_ k 0).bind fun out1 => match out1 with
        | .ret r => some r
        | .done () =>
          some true
end
theorem all_pspec_l03Right : ∀ k : Nat, (∀ {c30_ : GTerm} {b31_ : Int} {r : Bool}, pspec_l03Right k c30_ b31_ = some r → FnO Tryd.prog 17 [.v (.agg [.int .i64 c30_.gKind, .str c30_.gName, .int .i64 c30_.gNum, .sl (List.map GTerm.c c30_.gKids)]) [], .v (.int .i64 b31_) []] (.v (.bool r) []) []) := by
  intro k
  induction k with
  | zero =>
    · intro c30_ b31_ r h
      exact (onone (by rw [pspec_l03Right] at h; exact h)).elim
  | succ k ih =>
    have ih_pspec_l03Right := @ih
    · intro c30_ b31_ r h
      rw [pspec_l03Right] at h
      refine FnO.of Tryd.func17 (rfl : Tryd.f17.body = some _) (Nat.le_of_ble_eq_true (by kernel_rfl)) (Nat.le_of_ble_eq_true (by kernel_rfl)) ?_
      intro w0 X0 Fin pv0 pb gt
      refine Wc.seq ?_
      refine Wc.region [] [] [1, 2] [2] [] ⟨[(1, (.v (.int .i64 b31_), [])), (2, (.ptr 2 0, []))], [(2, .cells [.int .i64 c30_.gKind, .str c30_.gName, .int .i64 c30_.gNum, .sl (List.map GTerm.c c30_.gKids)] [])], []⟩ _ (by kernel_rfl) .nil ?_
      refine Wc.seq ?_
      refine Wc.seq ?_
      rcases oif h with ⟨h44, h⟩ | ⟨h44, h⟩
      · refine Wc.region [{}, {}, { re := some (.bool true) }] [] [1, 2, 12] [2] [] ⟨[(1, (.v (.int .i64 b31_), [])), (2, (.ptr 2 0, [])), (12, (.v (.bool true), []))], [(2, .cells [.int .i64 c30_.gKind, .str c30_.gName, .int .i64 c30_.gNum, .sl (List.map GTerm.c c30_.gKids)] [])], []⟩ _ (by kernel_rfl) (.cons (congrArg AV.bool h44) .nil) ?_
        refine Wc.condT rfl (by kernel_rfl) ?_
        refine Wc.seq ?_
        refine Wc.region [] [] [4] [] [] ⟨[(4, (.v (.bool false), []))], [], []⟩ _ (by kernel_rfl) .nil ?_
        refine Wc.ret ?_
        obtain rfl := Option.some.inj h
        exact ⟨.inl rfl, by kernel_rfl, by kernel_rfl⟩
      · obtain ⟨e32_, h45, h⟩ := obind h
        refine Wc.region [{}, {}, { re := some (.bool false) }, {}, { r := some (.v (.bool e32_) []) }] [] [1, 2, 12] [2] [] ⟨[(1, (.v (.int .i64 b31_), [])), (2, (.ptr 2 0, [])), (12, (.v (.bool (!e32_)), []))], [(2, .cells [.int .i64 c30_.gKind, .str c30_.gName, .int .i64 c30_.gNum, .sl (List.map GTerm.c c30_.gKids)] [])], []⟩ _ (by kernel_rfl) (.cons (congrArg AV.bool h44) (.cons (cspec_l03One h45) .nil)) ?_
        rcases oif h with ⟨h46, h⟩ | ⟨h46, h⟩
        · refine Wc.condT h46 (by kernel_rfl) ?_
          refine Wc.seq ?_
          refine Wc.region [] [] [4] [] [] ⟨[(4, (.v (.bool false), []))], [], []⟩ _ (by kernel_rfl) .nil ?_
          refine Wc.ret ?_
          obtain rfl := Option.some.inj h
          exact ⟨.inl rfl, by kernel_rfl, by kernel_rfl⟩
        · refine Wc.condF h46 (by kernel_rfl) ?_
          refine Wc.fix (st' := ⟨[(1, (.v (.int .i64 b31_), [])), (2, (.ptr 2 0, []))], [(2, .cells [.int .i64 c30_.gKind, .str c30_.gName, .int .i64 c30_.gNum, .sl (List.map GTerm.c c30_.gKids)] [])], []⟩) [] [1, 2] [2] [] (by kernel_rfl) ?_
          refine Wc.skip ?_
          refine Wc.seq ?_
          refine Wc.seq ?_
          refine Wc.region [] [] [1, 2, 5] [2] [] ⟨[(1, (.v (.int .i64 b31_), [])), (2, (.ptr 2 0, [])), (5, (.v (.int .i64 0), []))], [(2, .cells [.int .i64 c30_.gKind, .str c30_.gName, .int .i64 c30_.gNum, .sl (List.map GTerm.c c30_.gKids)] [])], []⟩ _ (by kernel_rfl) .nil ?_
          obtain ⟨out1, h47, h⟩ := obind h
          refine Wc.lastJ (fun st => out1 = .done () ∧ st = ⟨[], [], []⟩) ?_ ?_
          · refine Wc.block ?_
            refine Wc.loop (fun m st => ∃ (b33_ : Int), st = ⟨[(1, (.v (.int .i64 b31_), [])), (2, (.ptr 2 0, [])), (5, (.v (.int .i64 b33_), []))], [(2, .cells [.int .i64 c30_.gKind, .str c30_.gName, .int .i64 c30_.gNum, .sl (List.map GTerm.c c30_.gKids)] [])], []⟩ ∧ pspec_l03Right_L1 k (pspec_l03Right k) c30_ b31_ m b33_ = some out1) ?_ k ⟨_, rfl, h47⟩
            rintro m st ⟨b33_, rfl, h47⟩
            cases m with
            | zero => exact (onone h47).elim
            | succ m =>
              refine Wc.seq ?_
              refine Wc.seq ?_
              refine Wc.region [{}, {}, {}, { v := some (.int .i64 (c30_.gKids.length : Int)) }] [] [1, 2, 5, 17] [2] [] ⟨[(1, (.v (.int .i64 b31_), [])), (2, (.ptr 2 0, [])), (5, (.v (.int .i64 b33_), [])), (17, (.v (.bool (decide (b33_ < (c30_.gKids.length : Int)))), []))], [(2, .cells [.int .i64 c30_.gKind, .str c30_.gName, .int .i64 c30_.gNum, .sl (List.map GTerm.c c30_.gKids)] [])], []⟩ _ (by kernel_rfl) (.cons (len_obl GTerm.c c30_.gKids) .nil) ?_
              rcases oif h47 with ⟨h48, h47⟩ | ⟨h48, h47⟩
              · refine Wc.condT h48 (by kernel_rfl) ?_
                refine Wc.fix (st' := ⟨[(1, (.v (.int .i64 b31_), [])), (2, (.ptr 2 0, [])), (5, (.v (.int .i64 b33_), []))], [(2, .cells [.int .i64 c30_.gKind, .str c30_.gName, .int .i64 c30_.gNum, .sl (List.map GTerm.c c30_.gKids)] [])], []⟩) [] [1, 2, 5] [2] [] (by kernel_rfl) ?_
                refine Wc.skip ?_
                refine Wc.seq ?_
                refine Wc.block ?_
                refine Wc.seq ?_
                obtain ⟨c34_, h49, h47⟩ := obind h47
                obtain ⟨e35_, h50, h47⟩ := obind h47
                refine Wc.region [{}, {}, {}, { v := some (.vptr [.int .i64 c34_.gKind, .str c34_.gName, .int .i64 c34_.gNum, .sl (List.map GTerm.c c34_.gKids)]) }, {}, {}, {}, { r := some (.v (.bool e35_) []) }] [] [1, 2, 5, 28] [2] [] ⟨[(1, (.v (.int .i64 b31_), [])), (2, (.ptr 2 0, [])), (5, (.v (.int .i64 b33_), [])), (28, (.v (.bool (!e35_)), []))], [(2, .cells [.int .i64 c30_.gKind, .str c30_.gName, .int .i64 c30_.gNum, .sl (List.map GTerm.c c30_.gKids)] [])], []⟩ _ (by kernel_rfl) (.cons (at_obl (c := GTerm.c) (GTerm.c_eq c34_) GTerm.c_len h49) (.cons (len_ok 4 [.int .i64 c34_.gKind, .str c34_.gName, .int .i64 c34_.gNum, .sl (List.map GTerm.c c34_.gKids)]) (.cons (ih_pspec_l03Right h50) .nil))) ?_
                rcases oif h47 with ⟨h51, h47⟩ | ⟨h51, h47⟩
                · refine Wc.condT h51 (by kernel_rfl) ?_
                  refine Wc.seq ?_
                  refine Wc.region [] [] [4] [] [] ⟨[(4, (.v (.bool false), []))], [], []⟩ _ (by kernel_rfl) .nil ?_
                  refine Wc.ret ?_
                  obtain rfl := Option.some.inj h47
                  obtain rfl := Option.some.inj h
                  exact ⟨.inl rfl, by kernel_rfl, by kernel_rfl⟩
                · refine Wc.condF h51 (by kernel_rfl) ?_
                  refine Wc.fix (st' := ⟨[(1, (.v (.int .i64 b31_), [])), (2, (.ptr 2 0, [])), (5, (.v (.int .i64 b33_), []))], [(2, .cells [.int .i64 c30_.gKind, .str c30_.gName, .int .i64 c30_.gNum, .sl (List.map GTerm.c c30_.gKids)] [])], []⟩) [] [1, 2, 5] [2] [] (by kernel_rfl) ?_
                  refine Wc.skip ?_
                  refine Wc.region [] [] [1, 2, 5] [2] [] ⟨[(1, (.v (.int .i64 b31_), [])), (2, (.ptr 2 0, [])), (5, (.v (.int .i64 (wr.i64 (b33_ + 1))), []))], [(2, .cells [.int .i64 c30_.gKind, .str c30_.gName, .int .i64 c30_.gNum, .sl (List.map GTerm.c c30_.gKids)] [])], []⟩ _ (by kernel_rfl) .nil ?_
                  exact ⟨_, Nat.lt_succ_self _, _, rfl, h47⟩
              · refine Wc.condF h48 (by kernel_rfl) ?_
                refine Wc.fix (st' := ⟨[], [], []⟩) [] [] [] [] (by kernel_rfl) ?_
                refine Wc.exit ?_
                obtain rfl := Option.some.inj h47
                exact ⟨rfl, rfl⟩
          · rintro st ⟨rfl, rfl⟩
            refine Wc.seq ?_
            refine Wc.region [] [] [4] [] [] ⟨[(4, (.v (.bool true), []))], [], []⟩ _ (by kernel_rfl) .nil ?_
            refine Wc.ret ?_
            obtain rfl := Option.some.inj h
            exact ⟨.inl rfl, by kernel_rfl, by kernel_rfl⟩
theorem cspec_l03Right {k : Nat} {c30_ : GTerm} {b31_ : Int} {r : Bool} (h : pspec_l03Right k c30_ b31_ = some r) : FnO Tryd.prog 17 [.v (.agg [.int .i64 c30_.gKind, .str c30_.gName, .int .i64 c30_.gNum, .sl (List.map GTerm.c c30_.gKids)]) [], .v (.int .i64 b31_) []] (.v (.bool r) []) [] := (all_pspec_l03Right k) h

/-- spec.TermOk -/
def pspec_TermOk (k : Nat) (c36_ : GTerm) : Option Bool :=
  (pspec_l03Count k c36_ 400).bind fun b37_ =>
  if (decide (b37_ ≥ 0)) = true then
    (pspec_l03Right k c36_ 1).bind fun e38_ =>
    some e38_
  else
    some false
theorem cspec_TermOk {k : Nat} {c36_ : GTerm} {r : Bool} (h : pspec_TermOk k c36_ = some r) : FnO Tryd.prog 10 [.v (.agg [.int .i64 c36_.gKind, .str c36_.gName, .int .i64 c36_.gNum, .sl (List.map GTerm.c c36_.gKids)]) []] (.v (.bool r) []) [] := by
  refine FnO.of Tryd.func10 (rfl : Tryd.f10.body = some _) (Nat.le_of_ble_eq_true (by kernel_rfl)) (Nat.le_of_ble_eq_true (by kernel_rfl)) ?_
  intro w0 X0 Fin pv0 pb gt
  unfold pspec_TermOk at h
  refine Wc.seq ?_
  refine Wc.region [] [] [1] [1] [] ⟨[(1, (.ptr 1 0, []))], [(1, .cells [.int .i64 c36_.gKind, .str c36_.gName, .int .i64 c36_.gNum, .sl (List.map GTerm.c c36_.gKids)] [])], []⟩ _ (by kernel_rfl) .nil ?_
  refine Wc.seq ?_
  obtain ⟨b37_, h52, h⟩ := obind h
  rcases oif h with ⟨h53, h⟩ | ⟨h53, h⟩
  · obtain ⟨e38_, h54, h⟩ := obind h
    refine Wc.region [{}, { r := some (.v (.int .i64 b37_) []) }, {}, { re := some (.bool true) }, {}, { r := some (.v (.bool e38_) []) }] [] [2] [] [] ⟨[(2, (.v (.bool e38_), []))], [], []⟩ _ (by kernel_rfl) (.cons (cspec_l03Count h52) (.cons (congrArg AV.bool h53) (.cons (cspec_l03Right h54) .nil))) ?_
    refine Wc.ret ?_
    obtain rfl := Option.some.inj h
    exact ⟨.inl rfl, by kernel_rfl, by kernel_rfl⟩
  · refine Wc.region [{}, { r := some (.v (.int .i64 b37_) []) }, {}, { re := some (.bool false) }] [] [2] [] [] ⟨[(2, (.v (.bool false), []))], [], []⟩ _ (by kernel_rfl) (.cons (cspec_l03Count h52) (.cons (congrArg AV.bool h53) .nil)) ?_
    refine Wc.ret ?_
    obtain rfl := Option.some.inj h
    exact ⟨.inl rfl, by kernel_rfl, by kernel_rfl⟩

/-- spec.l01Figure -/
def pspec_l01Figure (k : Nat) (b39_ : Int) : Option Int :=
  if (decide (b39_ < 10)) = true then
    some (wr.u8 (wr.i64 (48 + b39_)))
  else
    some (wr.u8 (wr.i64 ((wr.i64 (97 + b39_)) - 10)))
theorem cspec_l01Figure {k : Nat} {b39_ : Int} {r : Int} (h : pspec_l01Figure k b39_ = some r) : FnO Tryd.prog 29 [.v (.int .i64 b39_) []] (.v (.int .u8 r) []) [] := by
  refine FnO.of Tryd.func29 (rfl : Tryd.f29.body = some _) (Nat.le_of_ble_eq_true (by kernel_rfl)) (Nat.le_of_ble_eq_true (by kernel_rfl)) ?_
  intro w0 X0 Fin pv0 pb gt
  unfold pspec_l01Figure at h
  refine Wc.seq ?_
  refine Wc.region [] [] [0] [] [] ⟨[(0, (.v (.int .i64 b39_), []))], [], []⟩ _ (by kernel_rfl) .nil ?_
  refine Wc.seq ?_
  refine Wc.seq ?_
  refine Wc.region [] [] [0, 4] [] [] ⟨[(0, (.v (.int .i64 b39_), [])), (4, (.v (.bool (decide (b39_ < 10))), []))], [], []⟩ _ (by kernel_rfl) .nil ?_
  rcases oif h with ⟨h55, h⟩ | ⟨h55, h⟩
  · refine Wc.condT h55 (by kernel_rfl) ?_
    refine Wc.seq ?_
    refine Wc.region [] [] [2] [] [] ⟨[(2, (.v (.int .u8 (wr.u8 (wr.i64 (48 + b39_)))), []))], [], []⟩ _ (by kernel_rfl) .nil ?_
    refine Wc.ret ?_
    obtain rfl := Option.some.inj h
    exact ⟨.inl rfl, by kernel_rfl, by kernel_rfl⟩
  · refine Wc.condF h55 (by kernel_rfl) ?_
    refine Wc.fix (st' := ⟨[(0, (.v (.int .i64 b39_), []))], [], []⟩) [] [0] [] [] (by kernel_rfl) ?_
    refine Wc.skip ?_
    refine Wc.seq ?_
    refine Wc.region [] [] [2] [] [] ⟨[(2, (.v (.int .u8 (wr.u8 (wr.i64 ((wr.i64 (97 + b39_)) - 10)))), []))], [], []⟩ _ (by kernel_rfl) .nil ?_
    refine Wc.ret ?_
    obtain rfl := Option.some.inj h
    exact ⟨.inl rfl, by kernel_rfl, by kernel_rfl⟩

def pspec_Decimal_J2 (k : Nat) (bk_ : Int → ByteArray → Option (Out ByteArray ByteArray)) (d42_ : ByteArray) (b41_ : Int) (b44_ : Int) : Option (Out ByteArray ByteArray) :=
  (pspec_l01Figure k b44_).bind fun b45_ =>
  if sumOk (strOfNums [b45_]) d42_ then
    if (10 : Int) ≠ 0 then
      bk_ (wr.i64 (Int.tdiv b41_ 10)) ((strOfNums [b45_]) ++ d42_)
    else none
  else none
def pspec_Decimal_L1 (k : Nat) : Nat → Int → ByteArray → Option (Out ByteArray ByteArray)
  | 0, _, _ => none
  | m + 1, b41_, d42_ =>
    if (b41_ != 0) = true then
      if (10 : Int) ≠ 0 then
        if (decide ((Int.tmod b41_ 10) < 0)) = true then
          pspec_Decimal_J2 k (pspec_Decimal_L1 k m) d42_ b41_ (wr.i64 (0 - (Int.tmod b41_ 10)))
        else
          pspec_Decimal_J2 k (pspec_Decimal_L1 k m) d42_ b41_ (Int.tmod b41_ 10)
      else none
    else
      some (.done d42_)
/-- spec.Decimal -/
def pspec_Decimal (k : Nat) (b40_ : Int) : Option ByteArray :=
  if (b40_ == 0) = true then
    some (bs [48])
  else
    (pspec_Decimal_L1 k k b40_ (bs [])).bind fun out1 => match out1 with
    | .ret r => some r
    | .done d43_ =>
      if (decide (b40_ < 0)) = true then
        if sumOk (bs [45]) d43_ then
          some ((bs [45]) ++ d43_)
        else none
      else
        some d43_
theorem cspec_Decimal {k : Nat} {b40_ : Int} {r : ByteArray} (h : pspec_Decimal k b40_ = some r) : FnO Tryd.prog 18 [.v (.int .i64 b40_) []] (.v (.str r) []) [] := by
  refine FnO.of Tryd.func18 (rfl : Tryd.f18.body = some _) (Nat.le_of_ble_eq_true (by kernel_rfl)) (Nat.le_of_ble_eq_true (by kernel_rfl)) ?_
  intro w0 X0 Fin pv0 pb gt
  unfold pspec_Decimal at h
  refine Wc.seq ?_
  refine Wc.region [] [] [0] [] [] ⟨[(0, (.v (.int .i64 b40_), []))], [], []⟩ _ (by kernel_rfl) .nil ?_
  refine Wc.seq ?_
  refine Wc.seq ?_
  refine Wc.region [] [] [0, 7] [] [] ⟨[(0, (.v (.int .i64 b40_), [])), (7, (.v (.bool (b40_ == 0)), []))], [], []⟩ _ (by kernel_rfl) .nil ?_
  rcases oif h with ⟨h56, h⟩ | ⟨h56, h⟩
  · refine Wc.condT h56 (by kernel_rfl) ?_
    refine Wc.seq ?_
    refine Wc.region [] [] [2] [] [] ⟨[(2, (.v (.str (bs [48])), []))], [], []⟩ _ (by kernel_rfl) .nil ?_
    refine Wc.ret ?_
    obtain rfl := Option.some.inj h
    exact ⟨.inl rfl, by kernel_rfl, by kernel_rfl⟩
  · refine Wc.condF h56 (by kernel_rfl) ?_
    refine Wc.fix (st' := ⟨[(0, (.v (.int .i64 b40_), []))], [], []⟩) [] [0] [] [] (by kernel_rfl) ?_
    refine Wc.skip ?_
    refine Wc.seq ?_
    refine Wc.region [] [] [0, 3] [] [] ⟨[(0, (.v (.int .i64 b40_), [])), (3, (.v (.bool (decide (b40_ < 0))), []))], [], []⟩ _ (by kernel_rfl) .nil ?_
    refine Wc.seq ?_
    refine Wc.region [] [] [0, 3, 4] [] [] ⟨[(0, (.v (.int .i64 b40_), [])), (3, (.v (.bool (decide (b40_ < 0))), [])), (4, (.v (.str (bs [])), []))], [], []⟩ _ (by kernel_rfl) .nil ?_
    obtain ⟨out1, h57, h⟩ := obind h
    refine Wc.seqJ (fun st => ∃ (d43_ : ByteArray), out1 = .done d43_ ∧ st = ⟨[(3, (.v (.bool (decide (b40_ < 0))), [])), (4, (.v (.str d43_), []))], [], []⟩) ?_ ?_
    · refine Wc.block ?_
      refine Wc.loop (fun m st => ∃ (b41_ : Int) (d42_ : ByteArray), st = ⟨[(0, (.v (.int .i64 b41_), [])), (3, (.v (.bool (decide (b40_ < 0))), [])), (4, (.v (.str d42_), []))], [], []⟩ ∧ pspec_Decimal_L1 k m b41_ d42_ = some out1) ?_ k ⟨_, _, rfl, h57⟩
      rintro m st ⟨b41_, d42_, rfl, h57⟩
      cases m with
      | zero => exact (onone h57).elim
      | succ m =>
        refine Wc.seq ?_
        refine Wc.seq ?_
        refine Wc.region [] [] [0, 3, 4, 11] [] [] ⟨[(0, (.v (.int .i64 b41_), [])), (3, (.v (.bool (decide (b40_ < 0))), [])), (4, (.v (.str d42_), [])), (11, (.v (.bool (b41_ != 0)), []))], [], []⟩ _ (by kernel_rfl) .nil ?_
        rcases oif h57 with ⟨h58, h57⟩ | ⟨h58, h57⟩
        · refine Wc.condT h58 (by kernel_rfl) ?_
          refine Wc.fix (st' := ⟨[(0, (.v (.int .i64 b41_), [])), (3, (.v (.bool (decide (b40_ < 0))), [])), (4, (.v (.str d42_), []))], [], []⟩) [] [0, 3, 4] [] [] (by kernel_rfl) ?_
          refine Wc.skip ?_
          refine Wc.block ?_
          refine Wc.seq ?_
          obtain ⟨h59, h57⟩ := oguard h57
          refine Wc.region [] [] [0, 3, 4, 5] [] [] ⟨[(0, (.v (.int .i64 b41_), [])), (3, (.v (.bool (decide (b40_ < 0))), [])), (4, (.v (.str d42_), [])), (5, (.v (.int .i64 (Int.tmod b41_ 10)), []))], [], []⟩ _ (by kernel_rfl) (.cons h59 .nil) ?_
          refine Wc.seqJ (fun st => ∃ (b44_ : Int), st = ⟨[(0, (.v (.int .i64 b41_), [])), (3, (.v (.bool (decide (b40_ < 0))), [])), (4, (.v (.str d42_), [])), (5, (.v (.int .i64 b44_), []))], [], []⟩ ∧ pspec_Decimal_J2 k (pspec_Decimal_L1 k m) d42_ b41_ b44_ = some out1) ?_ ?_
          · refine Wc.seq ?_
            refine Wc.region [] [] [0, 3, 4, 5, 15] [] [] ⟨[(0, (.v (.int .i64 b41_), [])), (3, (.v (.bool (decide (b40_ < 0))), [])), (4, (.v (.str d42_), [])), (5, (.v (.int .i64 (Int.tmod b41_ 10)), [])), (15, (.v (.bool (decide ((Int.tmod b41_ 10) < 0))), []))], [], []⟩ _ (by kernel_rfl) .nil ?_
            rcases oif h57 with ⟨h63, h57⟩ | ⟨h63, h57⟩
            · refine Wc.condT h63 (by kernel_rfl) ?_
              refine Wc.region [] [] [0, 3, 4, 5] [] [] ⟨[(0, (.v (.int .i64 b41_), [])), (3, (.v (.bool (decide (b40_ < 0))), [])), (4, (.v (.str d42_), [])), (5, (.v (.int .i64 (wr.i64 (0 - (Int.tmod b41_ 10)))), []))], [], []⟩ _ (by kernel_rfl) .nil ?_
              exact ⟨_, rfl, h57⟩
            · refine Wc.condF h63 (by kernel_rfl) ?_
              refine Wc.fix (st' := ⟨[(0, (.v (.int .i64 b41_), [])), (3, (.v (.bool (decide (b40_ < 0))), [])), (4, (.v (.str d42_), [])), (5, (.v (.int .i64 (Int.tmod b41_ 10)), []))], [], []⟩) [] [0, 3, 4, 5] [] [] (by kernel_rfl) ?_
              refine Wc.skip ?_
              exact ⟨_, rfl, h57⟩
          · rintro st ⟨b44_, rfl, h57⟩
            refine Wc.seq ?_
            obtain ⟨b45_, h60, h57⟩ := obind h57
            obtain ⟨h61, h57⟩ := oguard h57
            refine Wc.region [{}, { r := some (.v (.int .u8 b45_) []) }, { c := some (List.map cI.u8 [b45_]) }, { v := some (.str (strOfNums [b45_])) }] [] [0, 3, 4] [] [] ⟨[(0, (.v (.int .i64 b41_), [])), (3, (.v (.bool (decide (b40_ < 0))), [])), (4, (.v (.str ((strOfNums [b45_]) ++ d42_)), []))], [], []⟩ _ (by kernel_rfl) (.cons (cspec_l01Figure h60) (.cons (cl_cons (c := cI.u8) (x := b45_) rfl (cl_nil cI.u8)) (.cons (bytes_obl [b45_]) (.cons h61 .nil)))) ?_
            obtain ⟨h62, h57⟩ := oguard h57
            refine Wc.region [] [] [0, 3, 4] [] [] ⟨[(0, (.v (.int .i64 (wr.i64 (Int.tdiv b41_ 10))), [])), (3, (.v (.bool (decide (b40_ < 0))), [])), (4, (.v (.str ((strOfNums [b45_]) ++ d42_)), []))], [], []⟩ _ (by kernel_rfl) (.cons h62 .nil) ?_
            exact ⟨_, Nat.lt_succ_self _, _, _, rfl, h57⟩
        · refine Wc.condF h58 (by kernel_rfl) ?_
          refine Wc.fix (st' := ⟨[(3, (.v (.bool (decide (b40_ < 0))), [])), (4, (.v (.str d42_), []))], [], []⟩) [] [3, 4] [] [] (by kernel_rfl) ?_
          refine Wc.exit ?_
          obtain rfl := Option.some.inj h57
          exact ⟨_, rfl, rfl⟩
    · rintro st ⟨d43_, rfl, rfl⟩
      refine Wc.seq ?_
      refine Wc.seq ?_
      refine Wc.region [] [] [4, 26] [] [] ⟨[(4, (.v (.str d43_), [])), (26, (.v (.bool (decide (b40_ < 0))), []))], [], []⟩ _ (by kernel_rfl) .nil ?_
      rcases oif h with ⟨h64, h⟩ | ⟨h64, h⟩
      · refine Wc.condT h64 (by kernel_rfl) ?_
        refine Wc.seq ?_
        obtain ⟨h65, h⟩ := oguard h
        refine Wc.region [] [] [2] [] [] ⟨[(2, (.v (.str ((bs [45]) ++ d43_)), []))], [], []⟩ _ (by kernel_rfl) (.cons h65 .nil) ?_
        refine Wc.ret ?_
        obtain rfl := Option.some.inj h
        exact ⟨.inl rfl, by kernel_rfl, by kernel_rfl⟩
      · refine Wc.condF h64 (by kernel_rfl) ?_
        refine Wc.fix (st' := ⟨[(4, (.v (.str d43_), []))], [], []⟩) [] [4] [] [] (by kernel_rfl) ?_
        refine Wc.skip ?_
        refine Wc.seq ?_
        refine Wc.region [] [] [2] [] [] ⟨[(2, (.v (.str d43_), []))], [], []⟩ _ (by kernel_rfl) .nil ?_
        refine Wc.ret ?_
        obtain rfl := Option.some.inj h
        exact ⟨.inl rfl, by kernel_rfl, by kernel_rfl⟩

def pspec_InfixOf_J3 (k : Nat) (d46_ : ByteArray) (e49_ : Bool) : Option (GOp × Bool) :=
  if e49_ = true then
    some (GOp.mk d46_ 500 500 499, true)
  else
    if (sEq d46_ (bs [42])) = true then
      if (sEq d46_ (bs [42])) = true then
        some (GOp.mk d46_ 400 400 399, true)
      else
        some (GOp.mk (bs []) 0 0 0, false)
    else
      if (sEq d46_ (bs [47, 47])) = true then
        some (GOp.mk d46_ 400 400 399, true)
      else
        some (GOp.mk (bs []) 0 0 0, false)
def pspec_InfixOf_J2 (k : Nat) (d46_ : ByteArray) (e48_ : Bool) : Option (GOp × Bool) :=
  if e48_ = true then
    some (GOp.mk d46_ 700 699 699, true)
  else
    if (sEq d46_ (bs [43])) = true then
      pspec_InfixOf_J3 k d46_ (sEq d46_ (bs [43]))
    else
      pspec_InfixOf_J3 k d46_ (sEq d46_ (bs [45]))
def pspec_InfixOf_J1 (k : Nat) (d46_ : ByteArray) (e47_ : Bool) : Option (GOp × Bool) :=
  if e47_ = true then
    some (GOp.mk d46_ 1200 1199 1199, true)
  else
    if (sEq d46_ (bs [59])) = true then
      some (GOp.mk d46_ 1100 1099 1100, true)
    else
      if (sEq d46_ (bs [45, 62])) = true then
        some (GOp.mk d46_ 1050 1049 1050, true)
      else
        if (sEq d46_ (bs [44])) = true then
          some (GOp.mk d46_ 1000 999 1000, true)
        else
          if (sEq d46_ (bs [61])) = true then
            pspec_InfixOf_J2 k d46_ (sEq d46_ (bs [61]))
          else
            if (sEq d46_ (bs [92, 61])) = true then
              pspec_InfixOf_J2 k d46_ (sEq d46_ (bs [92, 61]))
            else
              if (sEq d46_ (bs [61, 61])) = true then
                pspec_InfixOf_J2 k d46_ (sEq d46_ (bs [61, 61]))
              else
                if (sEq d46_ (bs [105, 115])) = true then
                  pspec_InfixOf_J2 k d46_ (sEq d46_ (bs [105, 115]))
                else
                  if (sEq d46_ (bs [60])) = true then
                    pspec_InfixOf_J2 k d46_ (sEq d46_ (bs [60]))
                  else
                    pspec_InfixOf_J2 k d46_ (sEq d46_ (bs [61, 58, 61]))
/-- spec.InfixOf -/
def pspec_InfixOf (k : Nat) (d46_ : ByteArray) : Option (GOp × Bool) :=
  if (sEq d46_ (bs [58, 45])) = true then
    pspec_InfixOf_J1 k d46_ (sEq d46_ (bs [58, 45]))
  else
    pspec_InfixOf_J1 k d46_ (sEq d46_ (bs [45, 45, 62]))
set_option maxHeartbeats 4000000 in
theorem cspec_InfixOf {k : Nat} {d46_ : ByteArray} {r : GOp × Bool} (h : pspec_InfixOf k d46_ = some r) : FnO Tryd.prog 23 [.v (.str d46_) []] (.v (.tup [.agg [.str r.1.gName, .int .i64 r.1.gPrio, .int .i64 r.1.gLeft, .int .i64 r.1.gRight], .bool r.2]) []) [] := by
  refine FnO.of Tryd.func23 (rfl : Tryd.f23.body = some _) (Nat.le_of_ble_eq_true (by kernel_rfl)) (Nat.le_of_ble_eq_true (by kernel_rfl)) ?_
  intro w0 X0 Fin pv0 pb gt
  unfold pspec_InfixOf at h
  refine Wc.seq ?_
  refine Wc.region [] [] [0, 2] [2] [] ⟨[(0, (.v (.str d46_), [])), (2, (.ptr 2 0, []))], [(2, .cells [.str (bs []), .int .i64 0, .int .i64 0, .int .i64 0] [])], []⟩ _ (by kernel_rfl) .nil ?_
  refine Wc.seq ?_
  refine Wc.seq ?_
  refine Wc.region [] [] [0, 2, 4] [2] [] ⟨[(0, (.v (.str d46_), [])), (2, (.ptr 2 0, [])), (4, (.v (.str d46_), []))], [(2, .cells [.str (bs []), .int .i64 0, .int .i64 0, .int .i64 0] [])], []⟩ _ (by kernel_rfl) .nil ?_
  refine Wc.block ?_
  refine Wc.seqJ (fun st => ∃ (e47_ : Bool), st = ⟨[(0, (.v (.str d46_), [])), (2, (.ptr 2 0, [])), (4, (.v (.str d46_), [])), (5, (.v (.bool e47_), []))], [(2, .cells [.str (bs []), .int .i64 0, .int .i64 0, .int .i64 0] [])], []⟩ ∧ pspec_InfixOf_J1 k d46_ e47_ = some r) ?_ ?_
  · refine Wc.seq ?_
    refine Wc.region [] [] [0, 2, 4, 5] [2] [] ⟨[(0, (.v (.str d46_), [])), (2, (.ptr 2 0, [])), (4, (.v (.str d46_), [])), (5, (.v (.bool (sEq d46_ (bs [58, 45]))), []))], [(2, .cells [.str (bs []), .int .i64 0, .int .i64 0, .int .i64 0] [])], []⟩ _ (by kernel_rfl) .nil ?_
    rcases oif h with ⟨h81, h⟩ | ⟨h81, h⟩
    · refine Wc.condT h81 (by kernel_rfl) ?_
      refine Wc.skip ?_
      exact ⟨_, rfl, h⟩
    · refine Wc.condF h81 (by kernel_rfl) ?_
      refine Wc.region [] [] [0, 2, 4, 5] [2] [] ⟨[(0, (.v (.str d46_), [])), (2, (.ptr 2 0, [])), (4, (.v (.str d46_), [])), (5, (.v (.bool (sEq d46_ (bs [45, 45, 62]))), []))], [(2, .cells [.str (bs []), .int .i64 0, .int .i64 0, .int .i64 0] [])], []⟩ _ (by kernel_rfl) .nil ?_
      exact ⟨_, rfl, h⟩
  · rintro st ⟨e47_, rfl, h⟩
    rcases oif h with ⟨h66, h⟩ | ⟨h66, h⟩
    · refine Wc.condT h66 (by kernel_rfl) ?_
      refine Wc.seq ?_
      refine Wc.region [] [] [2, 3] [2] [] ⟨[(2, (.ptr 2 0, [])), (3, (.v (.bool true), []))], [(2, .cells [.str d46_, .int .i64 1200, .int .i64 1199, .int .i64 1199] [])], []⟩ _ (by kernel_rfl) .nil ?_
      refine Wc.ret ?_
      obtain rfl := Option.some.inj h
      exact ⟨.inl rfl, by kernel_rfl, by kernel_rfl⟩
    · refine Wc.condF h66 (by kernel_rfl) ?_
      refine Wc.seq ?_
      refine Wc.region [] [] [0, 2, 4, 10] [2] [] ⟨[(0, (.v (.str d46_), [])), (2, (.ptr 2 0, [])), (4, (.v (.str d46_), [])), (10, (.v (.bool (sEq d46_ (bs [59]))), []))], [(2, .cells [.str (bs []), .int .i64 0, .int .i64 0, .int .i64 0] [])], []⟩ _ (by kernel_rfl) .nil ?_
      rcases oif h with ⟨h67, h⟩ | ⟨h67, h⟩
      · refine Wc.condT h67 (by kernel_rfl) ?_
        refine Wc.seq ?_
        refine Wc.region [] [] [2, 3] [2] [] ⟨[(2, (.ptr 2 0, [])), (3, (.v (.bool true), []))], [(2, .cells [.str d46_, .int .i64 1100, .int .i64 1099, .int .i64 1100] [])], []⟩ _ (by kernel_rfl) .nil ?_
        refine Wc.ret ?_
        obtain rfl := Option.some.inj h
        exact ⟨.inl rfl, by kernel_rfl, by kernel_rfl⟩
      · refine Wc.condF h67 (by kernel_rfl) ?_
        refine Wc.seq ?_
        refine Wc.region [] [] [0, 2, 4, 14] [2] [] ⟨[(0, (.v (.str d46_), [])), (2, (.ptr 2 0, [])), (4, (.v (.str d46_), [])), (14, (.v (.bool (sEq d46_ (bs [45, 62]))), []))], [(2, .cells [.str (bs []), .int .i64 0, .int .i64 0, .int .i64 0] [])], []⟩ _ (by kernel_rfl) .nil ?_
        rcases oif h with ⟨h68, h⟩ | ⟨h68, h⟩
        · refine Wc.condT h68 (by kernel_rfl) ?_
          refine Wc.seq ?_
          refine Wc.region [] [] [2, 3] [2] [] ⟨[(2, (.ptr 2 0, [])), (3, (.v (.bool true), []))], [(2, .cells [.str d46_, .int .i64 1050, .int .i64 1049, .int .i64 1050] [])], []⟩ _ (by kernel_rfl) .nil ?_
          refine Wc.ret ?_
          obtain rfl := Option.some.inj h
          exact ⟨.inl rfl, by kernel_rfl, by kernel_rfl⟩
        · refine Wc.condF h68 (by kernel_rfl) ?_
          refine Wc.seq ?_
          refine Wc.region [] [] [0, 2, 4, 18] [2] [] ⟨[(0, (.v (.str d46_), [])), (2, (.ptr 2 0, [])), (4, (.v (.str d46_), [])), (18, (.v (.bool (sEq d46_ (bs [44]))), []))], [(2, .cells [.str (bs []), .int .i64 0, .int .i64 0, .int .i64 0] [])], []⟩ _ (by kernel_rfl) .nil ?_
          rcases oif h with ⟨h69, h⟩ | ⟨h69, h⟩
          · refine Wc.condT h69 (by kernel_rfl) ?_
            refine Wc.seq ?_
            refine Wc.region [] [] [2, 3] [2] [] ⟨[(2, (.ptr 2 0, [])), (3, (.v (.bool true), []))], [(2, .cells [.str d46_, .int .i64 1000, .int .i64 999, .int .i64 1000] [])], []⟩ _ (by kernel_rfl) .nil ?_
            refine Wc.ret ?_
            obtain rfl := Option.some.inj h
            exact ⟨.inl rfl, by kernel_rfl, by kernel_rfl⟩
          · refine Wc.condF h69 (by kernel_rfl) ?_
            refine Wc.seqJ (fun st => ∃ (e48_ : Bool), st = ⟨[(0, (.v (.str d46_), [])), (2, (.ptr 2 0, [])), (4, (.v (.str d46_), [])), (22, (.v (.bool e48_), []))], [(2, .cells [.str (bs []), .int .i64 0, .int .i64 0, .int .i64 0] [])], []⟩ ∧ pspec_InfixOf_J2 k d46_ e48_ = some r) ?_ ?_
            · refine Wc.seq ?_
              refine Wc.region [] [] [0, 2, 4, 22] [2] [] ⟨[(0, (.v (.str d46_), [])), (2, (.ptr 2 0, [])), (4, (.v (.str d46_), [])), (22, (.v (.bool (sEq d46_ (bs [61]))), []))], [(2, .cells [.str (bs []), .int .i64 0, .int .i64 0, .int .i64 0] [])], []⟩ _ (by kernel_rfl) .nil ?_
              rcases oif h with ⟨h76, h⟩ | ⟨h76, h⟩
              · refine Wc.condT h76 (by kernel_rfl) ?_
                refine Wc.skip ?_
                exact ⟨_, rfl, h⟩
              · refine Wc.condF h76 (by kernel_rfl) ?_
                refine Wc.seq ?_
                refine Wc.region [] [] [0, 2, 4, 22] [2] [] ⟨[(0, (.v (.str d46_), [])), (2, (.ptr 2 0, [])), (4, (.v (.str d46_), [])), (22, (.v (.bool (sEq d46_ (bs [92, 61]))), []))], [(2, .cells [.str (bs []), .int .i64 0, .int .i64 0, .int .i64 0] [])], []⟩ _ (by kernel_rfl) .nil ?_
                rcases oif h with ⟨h77, h⟩ | ⟨h77, h⟩
                · refine Wc.condT h77 (by kernel_rfl) ?_
                  refine Wc.skip ?_
                  exact ⟨_, rfl, h⟩
                · refine Wc.condF h77 (by kernel_rfl) ?_
                  refine Wc.seq ?_
                  refine Wc.region [] [] [0, 2, 4, 22] [2] [] ⟨[(0, (.v (.str d46_), [])), (2, (.ptr 2 0, [])), (4, (.v (.str d46_), [])), (22, (.v (.bool (sEq d46_ (bs [61, 61]))), []))], [(2, .cells [.str (bs []), .int .i64 0, .int .i64 0, .int .i64 0] [])], []⟩ _ (by kernel_rfl) .nil ?_
                  rcases oif h with ⟨h78, h⟩ | ⟨h78, h⟩
                  · refine Wc.condT h78 (by kernel_rfl) ?_
                    refine Wc.skip ?_
                    exact ⟨_, rfl, h⟩
                  · refine Wc.condF h78 (by kernel_rfl) ?_
                    refine Wc.seq ?_
                    refine Wc.region [] [] [0, 2, 4, 22] [2] [] ⟨[(0, (.v (.str d46_), [])), (2, (.ptr 2 0, [])), (4, (.v (.str d46_), [])), (22, (.v (.bool (sEq d46_ (bs [105, 115]))), []))], [(2, .cells [.str (bs []), .int .i64 0, .int .i64 0, .int .i64 0] [])], []⟩ _ (by kernel_rfl) .nil ?_
                    rcases oif h with ⟨h79, h⟩ | ⟨h79, h⟩
                    · refine Wc.condT h79 (by kernel_rfl) ?_
                      refine Wc.skip ?_
                      exact ⟨_, rfl, h⟩
                    · refine Wc.condF h79 (by kernel_rfl) ?_
                      refine Wc.seq ?_
                      refine Wc.region [] [] [0, 2, 4, 22] [2] [] ⟨[(0, (.v (.str d46_), [])), (2, (.ptr 2 0, [])), (4, (.v (.str d46_), [])), (22, (.v (.bool (sEq d46_ (bs [60]))), []))], [(2, .cells [.str (bs []), .int .i64 0, .int .i64 0, .int .i64 0] [])], []⟩ _ (by kernel_rfl) .nil ?_
                      rcases oif h with ⟨h80, h⟩ | ⟨h80, h⟩
                      · refine Wc.condT h80 (by kernel_rfl) ?_
                        refine Wc.skip ?_
                        exact ⟨_, rfl, h⟩
                      · refine Wc.condF h80 (by kernel_rfl) ?_
                        refine Wc.region [] [] [0, 2, 4, 22] [2] [] ⟨[(0, (.v (.str d46_), [])), (2, (.ptr 2 0, [])), (4, (.v (.str d46_), [])), (22, (.v (.bool (sEq d46_ (bs [61, 58, 61]))), []))], [(2, .cells [.str (bs []), .int .i64 0, .int .i64 0, .int .i64 0] [])], []⟩ _ (by kernel_rfl) .nil ?_
                        exact ⟨_, rfl, h⟩
            · rintro st ⟨e48_, rfl, h⟩
              rcases oif h with ⟨h70, h⟩ | ⟨h70, h⟩
              · refine Wc.condT h70 (by kernel_rfl) ?_
                refine Wc.seq ?_
                refine Wc.region [] [] [2, 3] [2] [] ⟨[(2, (.ptr 2 0, [])), (3, (.v (.bool true), []))], [(2, .cells [.str d46_, .int .i64 700, .int .i64 699, .int .i64 699] [])], []⟩ _ (by kernel_rfl) .nil ?_
                refine Wc.ret ?_
                obtain rfl := Option.some.inj h
                exact ⟨.inl rfl, by kernel_rfl, by kernel_rfl⟩
              · refine Wc.condF h70 (by kernel_rfl) ?_
                refine Wc.seqJ (fun st => ∃ (e49_ : Bool), st = ⟨[(0, (.v (.str d46_), [])), (2, (.ptr 2 0, [])), (4, (.v (.str d46_), [])), (31, (.v (.bool e49_), []))], [(2, .cells [.str (bs []), .int .i64 0, .int .i64 0, .int .i64 0] [])], []⟩ ∧ pspec_InfixOf_J3 k d46_ e49_ = some r) ?_ ?_
                · refine Wc.seq ?_
                  refine Wc.region [] [] [0, 2, 4, 31] [2] [] ⟨[(0, (.v (.str d46_), [])), (2, (.ptr 2 0, [])), (4, (.v (.str d46_), [])), (31, (.v (.bool (sEq d46_ (bs [43]))), []))], [(2, .cells [.str (bs []), .int .i64 0, .int .i64 0, .int .i64 0] [])], []⟩ _ (by kernel_rfl) .nil ?_
                  rcases oif h with ⟨h75, h⟩ | ⟨h75, h⟩
                  · refine Wc.condT h75 (by kernel_rfl) ?_
                    refine Wc.skip ?_
                    exact ⟨_, rfl, h⟩
                  · refine Wc.condF h75 (by kernel_rfl) ?_
                    refine Wc.region [] [] [0, 2, 4, 31] [2] [] ⟨[(0, (.v (.str d46_), [])), (2, (.ptr 2 0, [])), (4, (.v (.str d46_), [])), (31, (.v (.bool (sEq d46_ (bs [45]))), []))], [(2, .cells [.str (bs []), .int .i64 0, .int .i64 0, .int .i64 0] [])], []⟩ _ (by kernel_rfl) .nil ?_
                    exact ⟨_, rfl, h⟩
                · rintro st ⟨e49_, rfl, h⟩
                  rcases oif h with ⟨h71, h⟩ | ⟨h71, h⟩
                  · refine Wc.condT h71 (by kernel_rfl) ?_
                    refine Wc.seq ?_
                    refine Wc.region [] [] [2, 3] [2] [] ⟨[(2, (.ptr 2 0, [])), (3, (.v (.bool true), []))], [(2, .cells [.str d46_, .int .i64 500, .int .i64 500, .int .i64 499] [])], []⟩ _ (by kernel_rfl) .nil ?_
                    refine Wc.ret ?_
                    obtain rfl := Option.some.inj h
                    exact ⟨.inl rfl, by kernel_rfl, by kernel_rfl⟩
                  · refine Wc.condF h71 (by kernel_rfl) ?_
                    refine Wc.seq ?_
                    refine Wc.seq ?_
                    refine Wc.region [] [] [0, 2, 4, 36] [2] [] ⟨[(0, (.v (.str d46_), [])), (2, (.ptr 2 0, [])), (4, (.v (.str d46_), [])), (36, (.v (.bool (sEq d46_ (bs [42]))), []))], [(2, .cells [.str (bs []), .int .i64 0, .int .i64 0, .int .i64 0] [])], []⟩ _ (by kernel_rfl) .nil ?_
                    rcases oif h with ⟨h72, h⟩ | ⟨h72, h⟩
                    · refine Wc.condT h72 (by kernel_rfl) ?_
                      refine Wc.fix (st' := ⟨[(0, (.v (.str d46_), [])), (2, (.ptr 2 0, [])), (36, (.v (.bool (sEq d46_ (bs [42]))), []))], [(2, .cells [.str (bs []), .int .i64 0, .int .i64 0, .int .i64 0] [])], []⟩) [] [0, 2, 36] [2] [] (by kernel_rfl) ?_
                      refine Wc.skip ?_
                      rcases oif h with ⟨h73, h⟩ | ⟨h73, h⟩
                      · refine Wc.condT h73 (by kernel_rfl) ?_
                        refine Wc.seq ?_
                        refine Wc.region [] [] [2, 3] [2] [] ⟨[(2, (.ptr 2 0, [])), (3, (.v (.bool true), []))], [(2, .cells [.str d46_, .int .i64 400, .int .i64 400, .int .i64 399] [])], []⟩ _ (by kernel_rfl) .nil ?_
                        refine Wc.ret ?_
                        obtain rfl := Option.some.inj h
                        exact ⟨.inl rfl, by kernel_rfl, by kernel_rfl⟩
                      · refine Wc.condF h73 (by kernel_rfl) ?_
                        refine Wc.fix (st' := ⟨[(2, (.ptr 2 0, []))], [(2, .cells [.str (bs []), .int .i64 0, .int .i64 0, .int .i64 0] [])], []⟩) [] [2] [2] [] (by kernel_rfl) ?_
                        refine Wc.skip ?_
                        refine Wc.seq ?_
                        refine Wc.region [] [] [2, 3] [2] [] ⟨[(2, (.ptr 2 0, [])), (3, (.v (.bool false), []))], [(2, .cells [.str (bs []), .int .i64 0, .int .i64 0, .int .i64 0] [])], []⟩ _ (by kernel_rfl) .nil ?_
                        refine Wc.ret ?_
                        obtain rfl := Option.some.inj h
                        exact ⟨.inl rfl, by kernel_rfl, by kernel_rfl⟩
                    · refine Wc.condF h72 (by kernel_rfl) ?_
                      refine Wc.region [] [] [0, 2, 36] [2] [] ⟨[(0, (.v (.str d46_), [])), (2, (.ptr 2 0, [])), (36, (.v (.bool (sEq d46_ (bs [47, 47]))), []))], [(2, .cells [.str (bs []), .int .i64 0, .int .i64 0, .int .i64 0] [])], []⟩ _ (by kernel_rfl) .nil ?_
                      rcases oif h with ⟨h74, h⟩ | ⟨h74, h⟩
                      · refine Wc.condT h74 (by kernel_rfl) ?_
                        refine Wc.seq ?_
                        refine Wc.region [] [] [2, 3] [2] [] ⟨[(2, (.ptr 2 0, [])), (3, (.v (.bool true), []))], [(2, .cells [.str d46_, .int .i64 400, .int .i64 400, .int .i64 399] [])], []⟩ _ (by kernel_rfl) .nil ?_
                        refine Wc.ret ?_
                        obtain rfl := Option.some.inj h
                        exact ⟨.inl rfl, by kernel_rfl, by kernel_rfl⟩
                      · refine Wc.condF h74 (by kernel_rfl) ?_
                        refine Wc.fix (st' := ⟨[(2, (.ptr 2 0, []))], [(2, .cells [.str (bs []), .int .i64 0, .int .i64 0, .int .i64 0] [])], []⟩) [] [2] [2] [] (by kernel_rfl) ?_
                        refine Wc.skip ?_
                        refine Wc.seq ?_
                        refine Wc.region [] [] [2, 3] [2] [] ⟨[(2, (.ptr 2 0, [])), (3, (.v (.bool false), []))], [(2, .cells [.str (bs []), .int .i64 0, .int .i64 0, .int .i64 0] [])], []⟩ _ (by kernel_rfl) .nil ?_
                        refine Wc.ret ?_
                        obtain rfl := Option.some.inj h
                        exact ⟨.inl rfl, by kernel_rfl, by kernel_rfl⟩

/-- spec.PrefixOf -/
def pspec_PrefixOf (k : Nat) (d50_ : ByteArray) : Option (GOp × Bool) :=
  if (sEq d50_ (bs [58, 45])) = true then
    some (GOp.mk d50_ 1200 0 1199, true)
  else
    if (sEq d50_ (bs [92, 43])) = true then
      some (GOp.mk d50_ 900 0 900, true)
    else
      if (sEq d50_ (bs [45])) = true then
        some (GOp.mk d50_ 200 0 200, true)
      else
        some (GOp.mk (bs []) 0 0 0, false)
theorem cspec_PrefixOf {k : Nat} {d50_ : ByteArray} {r : GOp × Bool} (h : pspec_PrefixOf k d50_ = some r) : FnO Tryd.prog 30 [.v (.str d50_) []] (.v (.tup [.agg [.str r.1.gName, .int .i64 r.1.gPrio, .int .i64 r.1.gLeft, .int .i64 r.1.gRight], .bool r.2]) []) [] := by
  refine FnO.of Tryd.func30 (rfl : Tryd.f30.body = some _) (Nat.le_of_ble_eq_true (by kernel_rfl)) (Nat.le_of_ble_eq_true (by kernel_rfl)) ?_
  intro w0 X0 Fin pv0 pb gt
  unfold pspec_PrefixOf at h
  refine Wc.seq ?_
  refine Wc.region [] [] [0, 2] [2] [] ⟨[(0, (.v (.str d50_), [])), (2, (.ptr 2 0, []))], [(2, .cells [.str (bs []), .int .i64 0, .int .i64 0, .int .i64 0] [])], []⟩ _ (by kernel_rfl) .nil ?_
  refine Wc.seq ?_
  refine Wc.seq ?_
  refine Wc.region [] [] [0, 2, 4] [2] [] ⟨[(0, (.v (.str d50_), [])), (2, (.ptr 2 0, [])), (4, (.v (.str d50_), []))], [(2, .cells [.str (bs []), .int .i64 0, .int .i64 0, .int .i64 0] [])], []⟩ _ (by kernel_rfl) .nil ?_
  refine Wc.block ?_
  refine Wc.seq ?_
  refine Wc.region [] [] [0, 2, 4, 5] [2] [] ⟨[(0, (.v (.str d50_), [])), (2, (.ptr 2 0, [])), (4, (.v (.str d50_), [])), (5, (.v (.bool (sEq d50_ (bs [58, 45]))), []))], [(2, .cells [.str (bs []), .int .i64 0, .int .i64 0, .int .i64 0] [])], []⟩ _ (by kernel_rfl) .nil ?_
  rcases oif h with ⟨h82, h⟩ | ⟨h82, h⟩
  · refine Wc.condT h82 (by kernel_rfl) ?_
    refine Wc.seq ?_
    refine Wc.region [] [] [2, 3] [2] [] ⟨[(2, (.ptr 2 0, [])), (3, (.v (.bool true), []))], [(2, .cells [.str d50_, .int .i64 1200, .int .i64 0, .int .i64 1199] [])], []⟩ _ (by kernel_rfl) .nil ?_
    refine Wc.ret ?_
    obtain rfl := Option.some.inj h
    exact ⟨.inl rfl, by kernel_rfl, by kernel_rfl⟩
  · refine Wc.condF h82 (by kernel_rfl) ?_
    refine Wc.seq ?_
    refine Wc.region [] [] [0, 2, 4, 9] [2] [] ⟨[(0, (.v (.str d50_), [])), (2, (.ptr 2 0, [])), (4, (.v (.str d50_), [])), (9, (.v (.bool (sEq d50_ (bs [92, 43]))), []))], [(2, .cells [.str (bs []), .int .i64 0, .int .i64 0, .int .i64 0] [])], []⟩ _ (by kernel_rfl) .nil ?_
    rcases oif h with ⟨h83, h⟩ | ⟨h83, h⟩
    · refine Wc.condT h83 (by kernel_rfl) ?_
      refine Wc.seq ?_
      refine Wc.region [] [] [2, 3] [2] [] ⟨[(2, (.ptr 2 0, [])), (3, (.v (.bool true), []))], [(2, .cells [.str d50_, .int .i64 900, .int .i64 0, .int .i64 900] [])], []⟩ _ (by kernel_rfl) .nil ?_
      refine Wc.ret ?_
      obtain rfl := Option.some.inj h
      exact ⟨.inl rfl, by kernel_rfl, by kernel_rfl⟩
    · refine Wc.condF h83 (by kernel_rfl) ?_
      refine Wc.seq ?_
      refine Wc.region [] [] [0, 2, 13] [2] [] ⟨[(0, (.v (.str d50_), [])), (2, (.ptr 2 0, [])), (13, (.v (.bool (sEq d50_ (bs [45]))), []))], [(2, .cells [.str (bs []), .int .i64 0, .int .i64 0, .int .i64 0] [])], []⟩ _ (by kernel_rfl) .nil ?_
      rcases oif h with ⟨h84, h⟩ | ⟨h84, h⟩
      · refine Wc.condT h84 (by kernel_rfl) ?_
        refine Wc.seq ?_
        refine Wc.region [] [] [2, 3] [2] [] ⟨[(2, (.ptr 2 0, [])), (3, (.v (.bool true), []))], [(2, .cells [.str d50_, .int .i64 200, .int .i64 0, .int .i64 200] [])], []⟩ _ (by kernel_rfl) .nil ?_
        refine Wc.ret ?_
        obtain rfl := Option.some.inj h
        exact ⟨.inl rfl, by kernel_rfl, by kernel_rfl⟩
      · refine Wc.condF h84 (by kernel_rfl) ?_
        refine Wc.fix (st' := ⟨[(2, (.ptr 2 0, []))], [(2, .cells [.str (bs []), .int .i64 0, .int .i64 0, .int .i64 0] [])], []⟩) [] [2] [2] [] (by kernel_rfl) ?_
        refine Wc.skip ?_
        refine Wc.seq ?_
        refine Wc.region [] [] [2, 3] [2] [] ⟨[(2, (.ptr 2 0, [])), (3, (.v (.bool false), []))], [(2, .cells [.str (bs []), .int .i64 0, .int .i64 0, .int .i64 0] [])], []⟩ _ (by kernel_rfl) .nil ?_
        refine Wc.ret ?_
        obtain rfl := Option.some.inj h
        exact ⟨.inl rfl, by kernel_rfl, by kernel_rfl⟩

/-- spec.l07Op -/
def pspec_l07Op (k : Nat) (d51_ : ByteArray) : Option Bool :=
  (pspec_InfixOf k d51_).bind fun f52_ =>
  (pspec_PrefixOf k d51_).bind fun f53_ =>
  if f52_.2 = true then
    some true
  else
    some f53_.2
theorem cspec_l07Op {k : Nat} {d51_ : ByteArray} {r : Bool} (h : pspec_l07Op k d51_ = some r) : FnO Tryd.prog 19 [.v (.str d51_) []] (.v (.bool r) []) [] := by
  refine FnO.of Tryd.func19 (rfl : Tryd.f19.body = some _) (Nat.le_of_ble_eq_true (by kernel_rfl)) (Nat.le_of_ble_eq_true (by kernel_rfl)) ?_
  intro w0 X0 Fin pv0 pb gt
  unfold pspec_l07Op at h
  refine Wc.seq ?_
  refine Wc.region [] [] [0] [] [] ⟨[(0, (.v (.str d51_), []))], [], []⟩ _ (by kernel_rfl) .nil ?_
  refine Wc.seq ?_
  obtain ⟨f52_, h85, h⟩ := obind h
  refine Wc.region [{}, { r := some (.v (.tup [.agg [.str f52_.1.gName, .int .i64 f52_.1.gPrio, .int .i64 f52_.1.gLeft, .int .i64 f52_.1.gRight], .bool f52_.2]) []) }] [] [0, 4] [] [] ⟨[(0, (.v (.str d51_), [])), (4, (.v (.bool f52_.2), []))], [], []⟩ _ (by kernel_rfl) (.cons (cspec_InfixOf h85) .nil) ?_
  refine Wc.seq ?_
  obtain ⟨f53_, h86, h⟩ := obind h
  refine Wc.region [{}, { r := some (.v (.tup [.agg [.str f53_.1.gName, .int .i64 f53_.1.gPrio, .int .i64 f53_.1.gLeft, .int .i64 f53_.1.gRight], .bool f53_.2]) []) }] [] [4, 6] [] [] ⟨[(4, (.v (.bool f52_.2), [])), (6, (.v (.bool f53_.2), []))], [], []⟩ _ (by kernel_rfl) (.cons (cspec_PrefixOf h86) .nil) ?_
  refine Wc.seq ?_
  rcases oif h with ⟨h87, h⟩ | ⟨h87, h⟩
  · refine Wc.region [{}, { re := some (.bool true) }] [] [2] [] [] ⟨[(2, (.v (.bool true), []))], [], []⟩ _ (by kernel_rfl) (.cons (congrArg AV.bool h87) .nil) ?_
    refine Wc.ret ?_
    obtain rfl := Option.some.inj h
    exact ⟨.inl rfl, by kernel_rfl, by kernel_rfl⟩
  · refine Wc.region [{}, { re := some (.bool false) }] [] [2] [] [] ⟨[(2, (.v (.bool f53_.2), []))], [], []⟩ _ (by kernel_rfl) (.cons (congrArg AV.bool h87) .nil) ?_
    refine Wc.ret ?_
    obtain rfl := Option.some.inj h
    exact ⟨.inl rfl, by kernel_rfl, by kernel_rfl⟩

/-- spec.l05Blank -/
def pspec_l05Blank (k : Nat) (b54_ : Int) : Option Bool :=
  if (b54_ == 32) = true then
    some true
  else
    if (b54_ == 9) = true then
      some true
    else
      some (b54_ == 10)
theorem cspec_l05Blank {k : Nat} {b54_ : Int} {r : Bool} (h : pspec_l05Blank k b54_ = some r) : FnO Tryd.prog 43 [.v (.int .u8 b54_) []] (.v (.bool r) []) [] := by
  refine FnO.of Tryd.func43 (rfl : Tryd.f43.body = some _) (Nat.le_of_ble_eq_true (by kernel_rfl)) (Nat.le_of_ble_eq_true (by kernel_rfl)) ?_
  intro w0 X0 Fin pv0 pb gt
  unfold pspec_l05Blank at h
  refine Wc.seq ?_
  refine Wc.region [] [] [0] [] [] ⟨[(0, (.v (.int .u8 b54_), []))], [], []⟩ _ (by kernel_rfl) .nil ?_
  refine Wc.seq ?_
  rcases oif h with ⟨h88, h⟩ | ⟨h88, h⟩
  · refine Wc.region [{}, {}, { re := some (.bool true) }] [] [2] [] [] ⟨[(2, (.v (.bool true), []))], [], []⟩ _ (by kernel_rfl) (.cons (congrArg AV.bool h88) .nil) ?_
    refine Wc.ret ?_
    obtain rfl := Option.some.inj h
    exact ⟨.inl rfl, by kernel_rfl, by kernel_rfl⟩
  · rcases oif h with ⟨h89, h⟩ | ⟨h89, h⟩
    · refine Wc.region [{}, {}, { re := some (.bool false) }, {}, {}, {}, { re := some (.bool true) }] [] [2] [] [] ⟨[(2, (.v (.bool true), []))], [], []⟩ _ (by kernel_rfl) (.cons (congrArg AV.bool h88) (.cons (congrArg AV.bool h89) .nil)) ?_
      refine Wc.ret ?_
      obtain rfl := Option.some.inj h
      exact ⟨.inl rfl, by kernel_rfl, by kernel_rfl⟩
    · refine Wc.region [{}, {}, { re := some (.bool false) }, {}, {}, {}, { re := some (.bool false) }] [] [2] [] [] ⟨[(2, (.v (.bool (b54_ == 10)), []))], [], []⟩ _ (by kernel_rfl) (.cons (congrArg AV.bool h88) (.cons (congrArg AV.bool h89) .nil)) ?_
      refine Wc.ret ?_
      obtain rfl := Option.some.inj h
      exact ⟨.inl rfl, by kernel_rfl, by kernel_rfl⟩

/-- spec.l05Small -/
def pspec_l05Small (k : Nat) (b55_ : Int) : Option Bool :=
  if (decide (b55_ ≥ 97)) = true then
    some (decide (b55_ ≤ 122))
  else
    some false
theorem cspec_l05Small {k : Nat} {b55_ : Int} {r : Bool} (h : pspec_l05Small k b55_ = some r) : FnO Tryd.prog 53 [.v (.int .u8 b55_) []] (.v (.bool r) []) [] := by
  refine FnO.of Tryd.func53 (rfl : Tryd.f53.body = some _) (Nat.le_of_ble_eq_true (by kernel_rfl)) (Nat.le_of_ble_eq_true (by kernel_rfl)) ?_
  intro w0 X0 Fin pv0 pb gt
  unfold pspec_l05Small at h
  refine Wc.seq ?_
  refine Wc.region [] [] [0] [] [] ⟨[(0, (.v (.int .u8 b55_), []))], [], []⟩ _ (by kernel_rfl) .nil ?_
  refine Wc.seq ?_
  rcases oif h with ⟨h90, h⟩ | ⟨h90, h⟩
  · refine Wc.region [{}, {}, { re := some (.bool true) }] [] [2] [] [] ⟨[(2, (.v (.bool (decide (b55_ ≤ 122))), []))], [], []⟩ _ (by kernel_rfl) (.cons (congrArg AV.bool h90) .nil) ?_
    refine Wc.ret ?_
    obtain rfl := Option.some.inj h
    exact ⟨.inl rfl, by kernel_rfl, by kernel_rfl⟩
  · refine Wc.region [{}, {}, { re := some (.bool false) }] [] [2] [] [] ⟨[(2, (.v (.bool false), []))], [], []⟩ _ (by kernel_rfl) (.cons (congrArg AV.bool h90) .nil) ?_
    refine Wc.ret ?_
    obtain rfl := Option.some.inj h
    exact ⟨.inl rfl, by kernel_rfl, by kernel_rfl⟩

/-- spec.l05Great -/
def pspec_l05Great (k : Nat) (b56_ : Int) : Option Bool :=
  if (decide (b56_ ≥ 65)) = true then
    if (decide (b56_ ≤ 90)) = true then
      some true
    else
      some (b56_ == 95)
  else
    some (b56_ == 95)
theorem cspec_l05Great {k : Nat} {b56_ : Int} {r : Bool} (h : pspec_l05Great k b56_ = some r) : FnO Tryd.prog 54 [.v (.int .u8 b56_) []] (.v (.bool r) []) [] := by
  refine FnO.of Tryd.func54 (rfl : Tryd.f54.body = some _) (Nat.le_of_ble_eq_true (by kernel_rfl)) (Nat.le_of_ble_eq_true (by kernel_rfl)) ?_
  intro w0 X0 Fin pv0 pb gt
  unfold pspec_l05Great at h
  refine Wc.seq ?_
  refine Wc.region [] [] [0] [] [] ⟨[(0, (.v (.int .u8 b56_), []))], [], []⟩ _ (by kernel_rfl) .nil ?_
  refine Wc.seq ?_
  rcases oif h with ⟨h91, h⟩ | ⟨h91, h⟩
  · rcases oif h with ⟨h92, h⟩ | ⟨h92, h⟩
    · refine Wc.region [{}, {}, { re := some (.bool true) }, {}, {}, {}, { re := some (.bool true) }] [] [2] [] [] ⟨[(2, (.v (.bool true), []))], [], []⟩ _ (by kernel_rfl) (.cons (congrArg AV.bool h91) (.cons (congrArg AV.bool h92) .nil)) ?_
      refine Wc.ret ?_
      obtain rfl := Option.some.inj h
      exact ⟨.inl rfl, by kernel_rfl, by kernel_rfl⟩
    · refine Wc.region [{}, {}, { re := some (.bool true) }, {}, {}, {}, { re := some (.bool false) }] [] [2] [] [] ⟨[(2, (.v (.bool (b56_ == 95)), []))], [], []⟩ _ (by kernel_rfl) (.cons (congrArg AV.bool h91) (.cons (congrArg AV.bool h92) .nil)) ?_
      refine Wc.ret ?_
      obtain rfl := Option.some.inj h
      exact ⟨.inl rfl, by kernel_rfl, by kernel_rfl⟩
  · refine Wc.region [{}, {}, { re := some (.bool false) }] [] [2] [] [] ⟨[(2, (.v (.bool (b56_ == 95)), []))], [], []⟩ _ (by kernel_rfl) (.cons (congrArg AV.bool h91) .nil) ?_
    refine Wc.ret ?_
    obtain rfl := Option.some.inj h
    exact ⟨.inl rfl, by kernel_rfl, by kernel_rfl⟩

/-- spec.l05Figure -/
def pspec_l05Figure (k : Nat) (b57_ : Int) : Option Bool :=
  if (decide (b57_ ≥ 48)) = true then
    some (decide (b57_ ≤ 57))
  else
    some false
theorem cspec_l05Figure {k : Nat} {b57_ : Int} {r : Bool} (h : pspec_l05Figure k b57_ = some r) : FnO Tryd.prog 56 [.v (.int .u8 b57_) []] (.v (.bool r) []) [] := by
  refine FnO.of Tryd.func56 (rfl : Tryd.f56.body = some _) (Nat.le_of_ble_eq_true (by kernel_rfl)) (Nat.le_of_ble_eq_true (by kernel_rfl)) ?_
  intro w0 X0 Fin pv0 pb gt
  unfold pspec_l05Figure at h
  refine Wc.seq ?_
  refine Wc.region [] [] [0] [] [] ⟨[(0, (.v (.int .u8 b57_), []))], [], []⟩ _ (by kernel_rfl) .nil ?_
  refine Wc.seq ?_
  rcases oif h with ⟨h93, h⟩ | ⟨h93, h⟩
  · refine Wc.region [{}, {}, { re := some (.bool true) }] [] [2] [] [] ⟨[(2, (.v (.bool (decide (b57_ ≤ 57))), []))], [], []⟩ _ (by kernel_rfl) (.cons (congrArg AV.bool h93) .nil) ?_
    refine Wc.ret ?_
    obtain rfl := Option.some.inj h
    exact ⟨.inl rfl, by kernel_rfl, by kernel_rfl⟩
  · refine Wc.region [{}, {}, { re := some (.bool false) }] [] [2] [] [] ⟨[(2, (.v (.bool false), []))], [], []⟩ _ (by kernel_rfl) (.cons (congrArg AV.bool h93) .nil) ?_
    refine Wc.ret ?_
    obtain rfl := Option.some.inj h
    exact ⟨.inl rfl, by kernel_rfl, by kernel_rfl⟩

/-- spec.l05Word -/
def pspec_l05Word (k : Nat) (b58_ : Int) : Option Bool :=
  (pspec_l05Small k b58_).bind fun e59_ =>
  if e59_ = true then
    some true
  else
    (pspec_l05Great k b58_).bind fun e60_ =>
    if e60_ = true then
      some true
    else
      (pspec_l05Figure k b58_).bind fun e61_ =>
      some e61_
theorem cspec_l05Word {k : Nat} {b58_ : Int} {r : Bool} (h : pspec_l05Word k b58_ = some r) : FnO Tryd.prog 66 [.v (.int .u8 b58_) []] (.v (.bool r) []) [] := by
  refine FnO.of Tryd.func66 (rfl : Tryd.f66.body = some _) (Nat.le_of_ble_eq_true (by kernel_rfl)) (Nat.le_of_ble_eq_true (by kernel_rfl)) ?_
  intro w0 X0 Fin pv0 pb gt
  unfold pspec_l05Word at h
  refine Wc.seq ?_
  refine Wc.region [] [] [0] [] [] ⟨[(0, (.v (.int .u8 b58_), []))], [], []⟩ _ (by kernel_rfl) .nil ?_
  refine Wc.seq ?_
  obtain ⟨e59_, h94, h⟩ := obind h
  rcases oif h with ⟨h95, h⟩ | ⟨h95, h⟩
  · refine Wc.region [{}, { r := some (.v (.bool e59_) []) }, { re := some (.bool true) }] [] [2] [] [] ⟨[(2, (.v (.bool true), []))], [], []⟩ _ (by kernel_rfl) (.cons (cspec_l05Small h94) (.cons (congrArg AV.bool h95) .nil)) ?_
    refine Wc.ret ?_
    obtain rfl := Option.some.inj h
    exact ⟨.inl rfl, by kernel_rfl, by kernel_rfl⟩
  · obtain ⟨e60_, h96, h⟩ := obind h
    rcases oif h with ⟨h97, h⟩ | ⟨h97, h⟩
    · refine Wc.region [{}, { r := some (.v (.bool e59_) []) }, { re := some (.bool false) }, {}, { r := some (.v (.bool e60_) []) }, {}, { re := some (.bool true) }] [] [2] [] [] ⟨[(2, (.v (.bool true), []))], [], []⟩ _ (by kernel_rfl) (.cons (cspec_l05Small h94) (.cons (congrArg AV.bool h95) (.cons (cspec_l05Great h96) (.cons (congrArg AV.bool h97) .nil)))) ?_
      refine Wc.ret ?_
      obtain rfl := Option.some.inj h
      exact ⟨.inl rfl, by kernel_rfl, by kernel_rfl⟩
    · obtain ⟨e61_, h98, h⟩ := obind h
      refine Wc.region [{}, { r := some (.v (.bool e59_) []) }, { re := some (.bool false) }, {}, { r := some (.v (.bool e60_) []) }, {}, { re := some (.bool false) }, {}, { r := some (.v (.bool e61_) []) }] [] [2] [] [] ⟨[(2, (.v (.bool e61_), []))], [], []⟩ _ (by kernel_rfl) (.cons (cspec_l05Small h94) (.cons (congrArg AV.bool h95) (.cons (cspec_l05Great h96) (.cons (congrArg AV.bool h97) (.cons (cspec_l05Figure h98) .nil))))) ?_
      refine Wc.ret ?_
      obtain rfl := Option.some.inj h
      exact ⟨.inl rfl, by kernel_rfl, by kernel_rfl⟩

def pspec_l05Run_L1 (k : Nat) (d62_ : ByteArray) : Nat → Int → Option (Out Int Int)
  | 0, _ => none
  | m + 1, b64_ =>
    if (decide (b64_ < (d62_.size : Int))) = true then
      if 0 ≤ b64_ ∧ (b64_).toNat < d62_.size then
        (pspec_l05Word k (bt d62_ b64_)).bind fun e66_ =>
        if e66_ = true then
          pspec_l05Run_L1 k d62_ m (wr.i64 (b64_ + 1))
        else
          some (.done b64_)
      else none
    else
      some (.done b64_)
/-- spec.l05Run -/
def pspec_l05Run (k : Nat) (d62_ : ByteArray) (b63_ : Int) : Option Int :=
  (pspec_l05Run_L1 k d62_ k b63_).bind fun out1 => match out1 with
  | .ret r => some r
  | .done b65_ =>
    some b65_
theorem cspec_l05Run {k : Nat} {d62_ : ByteArray} {b63_ : Int} {r : Int} (h : pspec_l05Run k d62_ b63_ = some r) : FnO Tryd.prog 55 [.v (.str d62_) [], .v (.int .i64 b63_) []] (.v (.int .i64 r) []) [] := by
  refine FnO.of Tryd.func55 (rfl : Tryd.f55.body = some _) (Nat.le_of_ble_eq_true (by kernel_rfl)) (Nat.le_of_ble_eq_true (by kernel_rfl)) ?_
  intro w0 X0 Fin pv0 pb gt
  unfold pspec_l05Run at h
  refine Wc.seq ?_
  refine Wc.region [] [] [0, 1] [] [] ⟨[(0, (.v (.str d62_), [])), (1, (.v (.int .i64 b63_), []))], [], []⟩ _ (by kernel_rfl) .nil ?_
  obtain ⟨out1, h99, h⟩ := obind h
  refine Wc.seqJ (fun st => ∃ (b65_ : Int), out1 = .done b65_ ∧ st = ⟨[(1, (.v (.int .i64 b65_), []))], [], []⟩) ?_ ?_
  · refine Wc.block ?_
    refine Wc.loop (fun m st => ∃ (b64_ : Int), st = ⟨[(0, (.v (.str d62_), [])), (1, (.v (.int .i64 b64_), []))], [], []⟩ ∧ pspec_l05Run_L1 k d62_ m b64_ = some out1) ?_ k ⟨_, rfl, h99⟩
    rintro m st ⟨b64_, rfl, h99⟩
    cases m with
    | zero => exact (onone h99).elim
    | succ m =>
      refine Wc.seq ?_
      refine Wc.seq ?_
      rcases oif h99 with ⟨h100, h99⟩ | ⟨h100, h99⟩
      · obtain ⟨h101, h99⟩ := oguard h99
        obtain ⟨e66_, h102, h99⟩ := obind h99
        refine Wc.region [{}, {}, {}, {}, { re := some (.bool true) }, {}, {}, {}, { r := some (.v (.bool e66_) []) }] [] [0, 1, 14] [] [] ⟨[(0, (.v (.str d62_), [])), (1, (.v (.int .i64 b64_), [])), (14, (.v (.bool e66_), []))], [], []⟩ _ (by kernel_rfl) (.cons (congrArg AV.bool h100) (.cons h101 (.cons (cspec_l05Word h102) .nil))) ?_
        rcases oif h99 with ⟨h103, h99⟩ | ⟨h103, h99⟩
        · refine Wc.condT h103 (by kernel_rfl) ?_
          refine Wc.fix (st' := ⟨[(0, (.v (.str d62_), [])), (1, (.v (.int .i64 b64_), []))], [], []⟩) [] [0, 1] [] [] (by kernel_rfl) ?_
          refine Wc.skip ?_
          refine Wc.block ?_
          refine Wc.region [] [] [0, 1] [] [] ⟨[(0, (.v (.str d62_), [])), (1, (.v (.int .i64 (wr.i64 (b64_ + 1))), []))], [], []⟩ _ (by kernel_rfl) .nil ?_
          exact ⟨_, Nat.lt_succ_self _, _, rfl, h99⟩
        · refine Wc.condF h103 (by kernel_rfl) ?_
          refine Wc.fix (st' := ⟨[(1, (.v (.int .i64 b64_), []))], [], []⟩) [] [1] [] [] (by kernel_rfl) ?_
          refine Wc.exit ?_
          obtain rfl := Option.some.inj h99
          exact ⟨_, rfl, rfl⟩
      · refine Wc.region [{}, {}, {}, {}, { re := some (.bool false) }] [] [0, 1, 14] [] [] ⟨[(0, (.v (.str d62_), [])), (1, (.v (.int .i64 b64_), [])), (14, (.v (.bool false), []))], [], []⟩ _ (by kernel_rfl) (.cons (congrArg AV.bool h100) .nil) ?_
        refine Wc.condF rfl (by kernel_rfl) ?_
        refine Wc.fix (st' := ⟨[(1, (.v (.int .i64 b64_), []))], [], []⟩) [] [1] [] [] (by kernel_rfl) ?_
        refine Wc.exit ?_
        obtain rfl := Option.some.inj h99
        exact ⟨_, rfl, rfl⟩
  · rintro st ⟨b65_, rfl, rfl⟩
    refine Wc.seq ?_
    refine Wc.region [] [] [4] [] [] ⟨[(4, (.v (.int .i64 b65_), []))], [], []⟩ _ (by kernel_rfl) .nil ?_
    refine Wc.ret ?_
    obtain rfl := Option.some.inj h
    exact ⟨.inl rfl, by kernel_rfl, by kernel_rfl⟩

def pspec_l05Quoted_L1 (k : Nat) (d67_ : ByteArray) (b68_ : Int) : Nat → Int → Option (Out Int Unit)
  | 0, _ => none
  | m + 1, b69_ =>
    if (decide (b69_ < (d67_.size : Int))) = true then
      if 0 ≤ b69_ ∧ (b69_).toNat < d67_.size then
        if ((bt d67_ b69_) == 39) = true then
          if 0 ≤ (wr.i64 (b68_ + 1)) ∧ (wr.i64 (b68_ + 1)) ≤ b69_ ∧ b69_ ≤ (d67_.size : Int) then
            (pspec_l03Name k (d67_.extract ((wr.i64 (b68_ + 1)) : Int).toNat (b69_ : Int).toNat)).bind fun e70_ =>
            if e70_ = true then
              some (.ret (wr.i64 (b69_ + 1)))
            else
              some (.ret 0)
          else none
        else
          pspec_l05Quoted_L1 k d67_ b68_ m (wr.i64 (b69_ + 1))
      else none
    else
      some (.done ())
/-- spec.l05Quoted -/
def pspec_l05Quoted (k : Nat) (d67_ : ByteArray) (b68_ : Int) : Option Int :=
  (pspec_l05Quoted_L1 k d67_ b68_ k (wr.i64 (b68_ + 1))).bind fun out1 => match out1 with
  | .ret r => some r
  | .done () =>
    some 0
theorem cspec_l05Quoted {k : Nat} {d67_ : ByteArray} {b68_ : Int} {r : Int} (h : pspec_l05Quoted k d67_ b68_ = some r) : FnO Tryd.prog 57 [.v (.str d67_) [], .v (.int .i64 b68_) []] (.v (.int .i64 r) []) [] := by
  refine FnO.of Tryd.func57 (rfl : Tryd.f57.body = some _) (Nat.le_of_ble_eq_true (by kernel_rfl)) (Nat.le_of_ble_eq_true (by kernel_rfl)) ?_
  intro w0 X0 Fin pv0 pb gt
  unfold pspec_l05Quoted at h
  refine Wc.seq ?_
  refine Wc.region [] [] [0, 1] [] [] ⟨[(0, (.v (.str d67_), [])), (1, (.v (.int .i64 b68_), []))], [], []⟩ _ (by kernel_rfl) .nil ?_
  refine Wc.seq ?_
  refine Wc.seq ?_
  refine Wc.region [] [] [0, 1, 5] [] [] ⟨[(0, (.v (.str d67_), [])), (1, (.v (.int .i64 b68_), [])), (5, (.v (.int .i64 (wr.i64 (b68_ + 1))), []))], [], []⟩ _ (by kernel_rfl) .nil ?_
  obtain ⟨out1, h104, h⟩ := obind h
  refine Wc.lastJ (fun st => out1 = .done () ∧ st = ⟨[], [], []⟩) ?_ ?_
  · refine Wc.block ?_
    refine Wc.loop (fun m st => ∃ (b69_ : Int), st = ⟨[(0, (.v (.str d67_), [])), (1, (.v (.int .i64 b68_), [])), (5, (.v (.int .i64 b69_), []))], [], []⟩ ∧ pspec_l05Quoted_L1 k d67_ b68_ m b69_ = some out1) ?_ k ⟨_, rfl, h104⟩
    rintro m st ⟨b69_, rfl, h104⟩
    cases m with
    | zero => exact (onone h104).elim
    | succ m =>
      refine Wc.seq ?_
      refine Wc.seq ?_
      refine Wc.region [] [] [0, 1, 5, 11] [] [] ⟨[(0, (.v (.str d67_), [])), (1, (.v (.int .i64 b68_), [])), (5, (.v (.int .i64 b69_), [])), (11, (.v (.bool (decide (b69_ < (d67_.size : Int)))), []))], [], []⟩ _ (by kernel_rfl) .nil ?_
      rcases oif h104 with ⟨h105, h104⟩ | ⟨h105, h104⟩
      · refine Wc.condT h105 (by kernel_rfl) ?_
        refine Wc.fix (st' := ⟨[(0, (.v (.str d67_), [])), (1, (.v (.int .i64 b68_), [])), (5, (.v (.int .i64 b69_), []))], [], []⟩) [] [0, 1, 5] [] [] (by kernel_rfl) ?_
        refine Wc.skip ?_
        refine Wc.seq ?_
        refine Wc.block ?_
        refine Wc.seq ?_
        obtain ⟨h106, h104⟩ := oguard h104
        refine Wc.region [] [] [0, 1, 5, 17] [] [] ⟨[(0, (.v (.str d67_), [])), (1, (.v (.int .i64 b68_), [])), (5, (.v (.int .i64 b69_), [])), (17, (.v (.bool ((bt d67_ b69_) == 39)), []))], [], []⟩ _ (by kernel_rfl) (.cons h106 .nil) ?_
        rcases oif h104 with ⟨h107, h104⟩ | ⟨h107, h104⟩
        · refine Wc.condT h107 (by kernel_rfl) ?_
          refine Wc.seq ?_
          refine Wc.seq ?_
          obtain ⟨h108, h104⟩ := oguard h104
          obtain ⟨e70_, h109, h104⟩ := obind h104
          refine Wc.region [{}, {}, {}, {}, {}, { r := some (.v (.bool e70_) []) }] [] [5, 23] [] [] ⟨[(5, (.v (.int .i64 b69_), [])), (23, (.v (.bool e70_), []))], [], []⟩ _ (by kernel_rfl) (.cons h108 (.cons (cspec_l03Name h109) .nil)) ?_
          rcases oif h104 with ⟨h110, h104⟩ | ⟨h110, h104⟩
          · refine Wc.condT h110 (by kernel_rfl) ?_
            refine Wc.seq ?_
            refine Wc.region [] [] [4] [] [] ⟨[(4, (.v (.int .i64 (wr.i64 (b69_ + 1))), []))], [], []⟩ _ (by kernel_rfl) .nil ?_
            refine Wc.ret ?_
            obtain rfl := Option.some.inj h104
            obtain rfl := Option.some.inj h
            exact ⟨.inl rfl, by kernel_rfl, by kernel_rfl⟩
          · refine Wc.condF h110 (by kernel_rfl) ?_
            refine Wc.fix (st' := ⟨[], [], []⟩) [] [] [] [] (by kernel_rfl) ?_
            refine Wc.skip ?_
            refine Wc.seq ?_
            refine Wc.region [] [] [4] [] [] ⟨[(4, (.v (.int .i64 0), []))], [], []⟩ _ (by kernel_rfl) .nil ?_
            refine Wc.ret ?_
            obtain rfl := Option.some.inj h104
            obtain rfl := Option.some.inj h
            exact ⟨.inl rfl, by kernel_rfl, by kernel_rfl⟩
        · refine Wc.condF h107 (by kernel_rfl) ?_
          refine Wc.fix (st' := ⟨[(0, (.v (.str d67_), [])), (1, (.v (.int .i64 b68_), [])), (5, (.v (.int .i64 b69_), []))], [], []⟩) [] [0, 1, 5] [] [] (by kernel_rfl) ?_
          refine Wc.skip ?_
          refine Wc.region [] [] [0, 1, 5] [] [] ⟨[(0, (.v (.str d67_), [])), (1, (.v (.int .i64 b68_), [])), (5, (.v (.int .i64 (wr.i64 (b69_ + 1))), []))], [], []⟩ _ (by kernel_rfl) .nil ?_
          exact ⟨_, Nat.lt_succ_self _, _, rfl, h104⟩
      · refine Wc.condF h105 (by kernel_rfl) ?_
        refine Wc.fix (st' := ⟨[], [], []⟩) [] [] [] [] (by kernel_rfl) ?_
        refine Wc.exit ?_
        obtain rfl := Option.some.inj h104
        exact ⟨rfl, rfl⟩
  · rintro st ⟨rfl, rfl⟩
    refine Wc.seq ?_
    refine Wc.region [] [] [4] [] [] ⟨[(4, (.v (.int .i64 0), []))], [], []⟩ _ (by kernel_rfl) .nil ?_
    refine Wc.ret ?_
    obtain rfl := Option.some.inj h
    exact ⟨.inl rfl, by kernel_rfl, by kernel_rfl⟩

def pspec_SymbolByte_L1 (k : Nat) (b71_ : Int) : Nat → Int → Option (Out Bool Unit)
  | 0, _ => none
  | m + 1, b72_ =>
    if (decide (b72_ < ((bs [43, 45, 42, 47, 92, 94, 60, 62, 61, 126, 58, 46, 63, 64, 35, 38, 36]).size : Int))) = true then
      if 0 ≤ b72_ ∧ (b72_).toNat < (bs [43, 45, 42, 47, 92, 94, 60, 62, 61, 126, 58, 46, 63, 64, 35, 38, 36]).size then
        if ((bt (bs [43, 45, 42, 47, 92, 94, 60, 62, 61, 126, 58, 46, 63, 64, 35, 38, 36]) b72_) == b71_) = true then
          some (.ret true)
        else
          pspec_SymbolByte_L1 k b71_ m (wr.i64 (b72_ + 1))
      else none
    else
      some (.done ())
/-- spec.SymbolByte -/
def pspec_SymbolByte (k : Nat) (b71_ : Int) : Option Bool :=
  (pspec_SymbolByte_L1 k b71_ k 0).bind fun out1 => match out1 with
  | .ret r => some r
  | .done () =>
    some false
theorem cspec_SymbolByte {k : Nat} {b71_ : Int} {r : Bool} (h : pspec_SymbolByte k b71_ = some r) : FnO Tryd.prog 59 [.v (.int .u8 b71_) []] (.v (.bool r) []) [] := by
  refine FnO.of Tryd.func59 (rfl : Tryd.f59.body = some _) (Nat.le_of_ble_eq_true (by kernel_rfl)) (Nat.le_of_ble_eq_true (by kernel_rfl)) ?_
  intro w0 X0 Fin pv0 pb gt
  unfold pspec_SymbolByte at h
  refine Wc.seq ?_
  refine Wc.region [] [] [0] [] [] ⟨[(0, (.v (.int .u8 b71_), []))], [], []⟩ _ (by kernel_rfl) .nil ?_
  refine Wc.seq ?_
  refine Wc.region [] [] [0, 3] [] [] ⟨[(0, (.v (.int .u8 b71_), [])), (3, (.v (.str (bs [43, 45, 42, 47, 92, 94, 60, 62, 61, 126, 58, 46, 63, 64, 35, 38, 36])), []))], [], []⟩ _ (by kernel_rfl) .nil ?_
  refine Wc.seq ?_
  refine Wc.seq ?_
  refine Wc.region [] [] [0, 3, 4] [] [] ⟨[(0, (.v (.int .u8 b71_), [])), (3, (.v (.str (bs [43, 45, 42, 47, 92, 94, 60, 62, 61, 126, 58, 46, 63, 64, 35, 38, 36])), [])), (4, (.v (.int .i64 0), []))], [], []⟩ _ (by kernel_rfl) .nil ?_
  obtain ⟨out1, h111, h⟩ := obind h
  refine Wc.lastJ (fun st => out1 = .done () ∧ st = ⟨[], [], []⟩) ?_ ?_
  · refine Wc.block ?_
    refine Wc.loop (fun m st => ∃ (b72_ : Int), st = ⟨[(0, (.v (.int .u8 b71_), [])), (3, (.v (.str (bs [43, 45, 42, 47, 92, 94, 60, 62, 61, 126, 58, 46, 63, 64, 35, 38, 36])), [])), (4, (.v (.int .i64 b72_), []))], [], []⟩ ∧ pspec_SymbolByte_L1 k b71_ m b72_ = some out1) ?_ k ⟨_, rfl, h111⟩
    rintro m st ⟨b72_, rfl, h111⟩
    cases m with
    | zero => exact (onone h111).elim
    | succ m =>
      refine Wc.seq ?_
      refine Wc.seq ?_
      refine Wc.region [] [] [0, 3, 4, 8] [] [] ⟨[(0, (.v (.int .u8 b71_), [])), (3, (.v (.str (bs [43, 45, 42, 47, 92, 94, 60, 62, 61, 126, 58, 46, 63, 64, 35, 38, 36])), [])), (4, (.v (.int .i64 b72_), [])), (8, (.v (.bool (decide (b72_ < ((bs [43, 45, 42, 47, 92, 94, 60, 62, 61, 126, 58, 46, 63, 64, 35, 38, 36]).size : Int)))), []))], [], []⟩ _ (by kernel_rfl) .nil ?_
      rcases oif h111 with ⟨h112, h111⟩ | ⟨h112, h111⟩
      · refine Wc.condT h112 (by kernel_rfl) ?_
        refine Wc.fix (st' := ⟨[(0, (.v (.int .u8 b71_), [])), (3, (.v (.str (bs [43, 45, 42, 47, 92, 94, 60, 62, 61, 126, 58, 46, 63, 64, 35, 38, 36])), [])), (4, (.v (.int .i64 b72_), []))], [], []⟩) [] [0, 3, 4] [] [] (by kernel_rfl) ?_
        refine Wc.skip ?_
        refine Wc.seq ?_
        refine Wc.block ?_
        refine Wc.seq ?_
        obtain ⟨h113, h111⟩ := oguard h111
        refine Wc.region [] [] [0, 3, 4, 15] [] [] ⟨[(0, (.v (.int .u8 b71_), [])), (3, (.v (.str (bs [43, 45, 42, 47, 92, 94, 60, 62, 61, 126, 58, 46, 63, 64, 35, 38, 36])), [])), (4, (.v (.int .i64 b72_), [])), (15, (.v (.bool ((bt (bs [43, 45, 42, 47, 92, 94, 60, 62, 61, 126, 58, 46, 63, 64, 35, 38, 36]) b72_) == b71_)), []))], [], []⟩ _ (by kernel_rfl) (.cons h113 .nil) ?_
        rcases oif h111 with ⟨h114, h111⟩ | ⟨h114, h111⟩
        · refine Wc.condT h114 (by kernel_rfl) ?_
          refine Wc.seq ?_
          refine Wc.region [] [] [2] [] [] ⟨[(2, (.v (.bool true), []))], [], []⟩ _ (by kernel_rfl) .nil ?_
          refine Wc.ret ?_
          obtain rfl := Option.some.inj h111
          obtain rfl := Option.some.inj h
          exact ⟨.inl rfl, by kernel_rfl, by kernel_rfl⟩
        · refine Wc.condF h114 (by kernel_rfl) ?_
          refine Wc.fix (st' := ⟨[(0, (.v (.int .u8 b71_), [])), (3, (.v (.str (bs [43, 45, 42, 47, 92, 94, 60, 62, 61, 126, 58, 46, 63, 64, 35, 38, 36])), [])), (4, (.v (.int .i64 b72_), []))], [], []⟩) [] [0, 3, 4] [] [] (by kernel_rfl) ?_
          refine Wc.skip ?_
          refine Wc.region [] [] [0, 3, 4] [] [] ⟨[(0, (.v (.int .u8 b71_), [])), (3, (.v (.str (bs [43, 45, 42, 47, 92, 94, 60, 62, 61, 126, 58, 46, 63, 64, 35, 38, 36])), [])), (4, (.v (.int .i64 (wr.i64 (b72_ + 1))), []))], [], []⟩ _ (by kernel_rfl) .nil ?_
          exact ⟨_, Nat.lt_succ_self _, _, rfl, h111⟩
      · refine Wc.condF h112 (by kernel_rfl) ?_
        refine Wc.fix (st' := ⟨[], [], []⟩) [] [] [] [] (by kernel_rfl) ?_
        refine Wc.exit ?_
        obtain rfl := Option.some.inj h111
        exact ⟨rfl, rfl⟩
  · rintro st ⟨rfl, rfl⟩
    refine Wc.seq ?_
    refine Wc.region [] [] [2] [] [] ⟨[(2, (.v (.bool false), []))], [], []⟩ _ (by kernel_rfl) .nil ?_
    refine Wc.ret ?_
    obtain rfl := Option.some.inj h
    exact ⟨.inl rfl, by kernel_rfl, by kernel_rfl⟩

/-- spec.l05End -/
def pspec_l05End (k : Nat) (d73_ : ByteArray) (b74_ : Int) : Option Bool :=
  if 0 ≤ b74_ ∧ (b74_).toNat < d73_.size then
    if ((bt d73_ b74_) == 46) = true then
      if (b74_ == 0) = true then
        if ((wr.i64 (b74_ + 1)) == (d73_.size : Int)) = true then
          some true
        else
          if 0 ≤ wr.i64 (b74_ + 1) ∧ (wr.i64 (b74_ + 1)).toNat < d73_.size then
            (pspec_l05Blank k (bt d73_ (wr.i64 (b74_ + 1)))).bind fun e75_ =>
            if e75_ = true then
              some true
            else
              if 0 ≤ wr.i64 (b74_ + 1) ∧ (wr.i64 (b74_ + 1)).toNat < d73_.size then
                some ((bt d73_ (wr.i64 (b74_ + 1))) == 37)
              else none
          else none
      else
        if 0 ≤ wr.i64 (b74_ - 1) ∧ (wr.i64 (b74_ - 1)).toNat < d73_.size then
          (pspec_SymbolByte k (bt d73_ (wr.i64 (b74_ - 1)))).bind fun e75_ =>
          if (!e75_) = true then
            if ((wr.i64 (b74_ + 1)) == (d73_.size : Int)) = true then
              some true
            else
              if 0 ≤ wr.i64 (b74_ + 1) ∧ (wr.i64 (b74_ + 1)).toNat < d73_.size then
                (pspec_l05Blank k (bt d73_ (wr.i64 (b74_ + 1)))).bind fun e76_ =>
                if e76_ = true then
                  some true
                else
                  if 0 ≤ wr.i64 (b74_ + 1) ∧ (wr.i64 (b74_ + 1)).toNat < d73_.size then
                    some ((bt d73_ (wr.i64 (b74_ + 1))) == 37)
                  else none
              else none
          else
            some false
        else none
    else
      some false
  else none
theorem cspec_l05End {k : Nat} {d73_ : ByteArray} {b74_ : Int} {r : Bool} (h : pspec_l05End k d73_ b74_ = some r) : FnO Tryd.prog 58 [.v (.str d73_) [], .v (.int .i64 b74_) []] (.v (.bool r) []) [] := by
  refine FnO.of Tryd.func58 (rfl : Tryd.f58.body = some _) (Nat.le_of_ble_eq_true (by kernel_rfl)) (Nat.le_of_ble_eq_true (by kernel_rfl)) ?_
  intro w0 X0 Fin pv0 pb gt
  unfold pspec_l05End at h
  refine Wc.seq ?_
  refine Wc.region [] [] [0, 1] [] [] ⟨[(0, (.v (.str d73_), [])), (1, (.v (.int .i64 b74_), []))], [], []⟩ _ (by kernel_rfl) .nil ?_
  refine Wc.seq ?_
  obtain ⟨h115, h⟩ := oguard h
  rcases oif h with ⟨h116, h⟩ | ⟨h116, h⟩
  · rcases oif h with ⟨h117, h⟩ | ⟨h117, h⟩
    · rcases oif h with ⟨h118, h⟩ | ⟨h118, h⟩
      · refine Wc.region [{}, {}, {}, {}, { re := some (.bool true) }, {}, {}, { re := some (.bool true) }, {}, {}, {}, {}, {}, {}, {}, {}, {}, {}, {}, {}, {}, {}, { re := some (.bool true) }] [] [4] [] [] ⟨[(4, (.v (.bool true), []))], [], []⟩ _ (by kernel_rfl) (.cons h115 (.cons (congrArg AV.bool h116) (.cons (congrArg AV.bool h117) (.cons (congrArg AV.bool h118) .nil)))) ?_
        refine Wc.ret ?_
        obtain rfl := Option.some.inj h
        exact ⟨.inl rfl, by kernel_rfl, by kernel_rfl⟩
      · obtain ⟨h119, h⟩ := oguard h
        obtain ⟨e75_, h120, h⟩ := obind h
        rcases oif h with ⟨h121, h⟩ | ⟨h121, h⟩
        · refine Wc.region [{}, {}, {}, {}, { re := some (.bool true) }, {}, {}, { re := some (.bool true) }, {}, {}, {}, {}, {}, {}, {}, {}, {}, {}, {}, {}, {}, {}, { re := some (.bool false) }, {}, {}, {}, {}, { r := some (.v (.bool e75_) []) }, {}, { re := some (.bool true) }] [] [4] [] [] ⟨[(4, (.v (.bool true), []))], [], []⟩ _ (by kernel_rfl) (.cons h115 (.cons (congrArg AV.bool h116) (.cons (congrArg AV.bool h117) (.cons (congrArg AV.bool h118) (.cons h119 (.cons (cspec_l05Blank h120) (.cons (congrArg AV.bool h121) .nil))))))) ?_
          refine Wc.ret ?_
          obtain rfl := Option.some.inj h
          exact ⟨.inl rfl, by kernel_rfl, by kernel_rfl⟩
        · obtain ⟨h122, h⟩ := oguard h
          refine Wc.region [{}, {}, {}, {}, { re := some (.bool true) }, {}, {}, { re := some (.bool true) }, {}, {}, {}, {}, {}, {}, {}, {}, {}, {}, {}, {}, {}, {}, { re := some (.bool false) }, {}, {}, {}, {}, { r := some (.v (.bool e75_) []) }, {}, { re := some (.bool false) }] [] [4] [] [] ⟨[(4, (.v (.bool ((bt d73_ (wr.i64 (b74_ + 1))) == 37)), []))], [], []⟩ _ (by kernel_rfl) (.cons h115 (.cons (congrArg AV.bool h116) (.cons (congrArg AV.bool h117) (.cons (congrArg AV.bool h118) (.cons h119 (.cons (cspec_l05Blank h120) (.cons (congrArg AV.bool h121) (.cons h122 .nil)))))))) ?_
          refine Wc.ret ?_
          obtain rfl := Option.some.inj h
          exact ⟨.inl rfl, by kernel_rfl, by kernel_rfl⟩
    · obtain ⟨h118, h⟩ := oguard h
      obtain ⟨e75_, h119, h⟩ := obind h
      rcases oif h with ⟨h120, h⟩ | ⟨h120, h⟩
      · rcases oif h with ⟨h121, h⟩ | ⟨h121, h⟩
        · refine Wc.region [{}, {}, {}, {}, { re := some (.bool true) }, {}, {}, { re := some (.bool false) }, {}, {}, {}, {}, { r := some (.v (.bool e75_) []) }, {}, {}, {}, { re := some (.bool true) }, {}, {}, {}, {}, {}, { re := some (.bool true) }] [] [4] [] [] ⟨[(4, (.v (.bool true), []))], [], []⟩ _ (by kernel_rfl) (.cons h115 (.cons (congrArg AV.bool h116) (.cons (congrArg AV.bool h117) (.cons h118 (.cons (cspec_SymbolByte h119) (.cons (congrArg AV.bool h120) (.cons (congrArg AV.bool h121) .nil))))))) ?_
          refine Wc.ret ?_
          obtain rfl := Option.some.inj h
          exact ⟨.inl rfl, by kernel_rfl, by kernel_rfl⟩
        · obtain ⟨h122, h⟩ := oguard h
          obtain ⟨e76_, h123, h⟩ := obind h
          rcases oif h with ⟨h124, h⟩ | ⟨h124, h⟩
          · refine Wc.region [{}, {}, {}, {}, { re := some (.bool true) }, {}, {}, { re := some (.bool false) }, {}, {}, {}, {}, { r := some (.v (.bool e75_) []) }, {}, {}, {}, { re := some (.bool true) }, {}, {}, {}, {}, {}, { re := some (.bool false) }, {}, {}, {}, {}, { r := some (.v (.bool e76_) []) }, {}, { re := some (.bool true) }] [] [4] [] [] ⟨[(4, (.v (.bool true), []))], [], []⟩ _ (by kernel_rfl) (.cons h115 (.cons (congrArg AV.bool h116) (.cons (congrArg AV.bool h117) (.cons h118 (.cons (cspec_SymbolByte h119) (.cons (congrArg AV.bool h120) (.cons (congrArg AV.bool h121) (.cons h122 (.cons (cspec_l05Blank h123) (.cons (congrArg AV.bool h124) .nil)))))))))) ?_
            refine Wc.ret ?_
            obtain rfl := Option.some.inj h
            exact ⟨.inl rfl, by kernel_rfl, by kernel_rfl⟩
          · obtain ⟨h125, h⟩ := oguard h
            refine Wc.region [{}, {}, {}, {}, { re := some (.bool true) }, {}, {}, { re := some (.bool false) }, {}, {}, {}, {}, { r := some (.v (.bool e75_) []) }, {}, {}, {}, { re := some (.bool true) }, {}, {}, {}, {}, {}, { re := some (.bool false) }, {}, {}, {}, {}, { r := some (.v (.bool e76_) []) }, {}, { re := some (.bool false) }] [] [4] [] [] ⟨[(4, (.v (.bool ((bt d73_ (wr.i64 (b74_ + 1))) == 37)), []))], [], []⟩ _ (by kernel_rfl) (.cons h115 (.cons (congrArg AV.bool h116) (.cons (congrArg AV.bool h117) (.cons h118 (.cons (cspec_SymbolByte h119) (.cons (congrArg AV.bool h120) (.cons (congrArg AV.bool h121) (.cons h122 (.cons (cspec_l05Blank h123) (.cons (congrArg AV.bool h124) (.cons h125 .nil))))))))))) ?_
            refine Wc.ret ?_
            obtain rfl := Option.some.inj h
            exact ⟨.inl rfl, by kernel_rfl, by kernel_rfl⟩
      · refine Wc.region [{}, {}, {}, {}, { re := some (.bool true) }, {}, {}, { re := some (.bool false) }, {}, {}, {}, {}, { r := some (.v (.bool e75_) []) }, {}, {}, {}, { re := some (.bool false) }] [] [4] [] [] ⟨[(4, (.v (.bool false), []))], [], []⟩ _ (by kernel_rfl) (.cons h115 (.cons (congrArg AV.bool h116) (.cons (congrArg AV.bool h117) (.cons h118 (.cons (cspec_SymbolByte h119) (.cons (congrArg AV.bool h120) .nil)))))) ?_
        refine Wc.ret ?_
        obtain rfl := Option.some.inj h
        exact ⟨.inl rfl, by kernel_rfl, by kernel_rfl⟩
  · refine Wc.region [{}, {}, {}, {}, { re := some (.bool false) }] [] [4] [] [] ⟨[(4, (.v (.bool false), []))], [], []⟩ _ (by kernel_rfl) (.cons h115 (.cons (congrArg AV.bool h116) .nil)) ?_
    refine Wc.ret ?_
    obtain rfl := Option.some.inj h
    exact ⟨.inl rfl, by kernel_rfl, by kernel_rfl⟩

def pspec_l05Sign_L2 (k : Nat) (d77_ : ByteArray) : Nat → Int → Int → Option (Out (GSign × Int) (Int × Int))
  | 0, _, _ => none
  | m + 1, b83_, b84_ =>
    if (decide (b83_ < (d77_.size : Int))) = true then
      if 0 ≤ b83_ ∧ (b83_).toNat < d77_.size then
        (pspec_l05Figure k (bt d77_ b83_)).bind fun e87_ =>
        if e87_ = true then
          if (decide (b84_ ≤ 999999999)) = true then
            if 0 ≤ b83_ ∧ (b83_).toNat < d77_.size then
              pspec_l05Sign_L2 k d77_ m (wr.i64 (b83_ + 1)) (wr.i64 ((wr.i64 ((wr.i64 (10 * b84_)) + (wr.i64 (bt d77_ b83_)))) - 48))
            else none
          else
            some (.done (b83_, b84_))
        else
          some (.done (b83_, b84_))
      else none
    else
      some (.done (b83_, b84_))
def pspec_l05Sign_L5 (k : Nat) (d77_ : ByteArray) : Nat → Int → Option (Out (GSign × Int) Int)
  | 0, _ => none
  | m + 1, b93_ =>
    if (decide (b93_ < (d77_.size : Int))) = true then
      if 0 ≤ b93_ ∧ (b93_).toNat < d77_.size then
        (pspec_SymbolByte k (bt d77_ b93_)).bind fun e95_ =>
        if e95_ = true then
          pspec_l05Sign_L5 k d77_ m (wr.i64 (b93_ + 1))
        else
          some (.done b93_)
      else none
    else
      some (.done b93_)
def pspec_l05Sign_J4 (k : Nat) (d77_ : ByteArray) (b78_ : Int) (e90_ : Bool) : Option (GSign × Int) :=
  if e90_ = true then
    some (GSign.mk 4 (d77_.extract (b78_ : Int).toNat ((wr.i64 (b78_ + 1)) : Int).toNat) 0 b78_ false, wr.i64 (b78_ + 1))
  else
    (pspec_l05End k d77_ b78_).bind fun e91_ =>
    if e91_ = true then
      some (GSign.mk 5 (d77_.extract (b78_ : Int).toNat ((wr.i64 (b78_ + 1)) : Int).toNat) 0 b78_ false, wr.i64 (b78_ + 1))
    else
      (pspec_SymbolByte k (bt d77_ b78_)).bind fun e92_ =>
      if e92_ = true then
        (pspec_l05Sign_L5 k d77_ k b78_).bind fun out5 => match out5 with
        | .ret r => some r
        | .done b94_ =>
          if (decide ((wr.i64 (b94_ - b78_)) ≤ 20)) = true then
            if 0 ≤ b78_ ∧ b78_ ≤ b94_ ∧ b94_ ≤ (d77_.size : Int) then
              some (GSign.mk 1 (d77_.extract (b78_ : Int).toNat (b94_ : Int).toNat) 0 b78_ false, b94_)
            else none
          else
            some (GSign.mk 6 (d77_.extract (b78_ : Int).toNat ((wr.i64 (b78_ + 1)) : Int).toNat) 0 b78_ false, wr.i64 (b78_ + 1))
      else
        some (GSign.mk 6 (d77_.extract (b78_ : Int).toNat ((wr.i64 (b78_ + 1)) : Int).toNat) 0 b78_ false, wr.i64 (b78_ + 1))
def pspec_l05Sign_J3 (k : Nat) (d77_ : ByteArray) (b78_ : Int) (e89_ : Bool) : Option (GSign × Int) :=
  if e89_ = true then
    some (GSign.mk 1 (d77_.extract (b78_ : Int).toNat ((wr.i64 (b78_ + 1)) : Int).toNat) 0 b78_ false, wr.i64 (b78_ + 1))
  else
    if ((bt d77_ b78_) == 40) = true then
      pspec_l05Sign_J4 k d77_ b78_ true
    else
      if ((bt d77_ b78_) == 41) = true then
        pspec_l05Sign_J4 k d77_ b78_ true
      else
        if ((bt d77_ b78_) == 91) = true then
          pspec_l05Sign_J4 k d77_ b78_ true
        else
          if ((bt d77_ b78_) == 93) = true then
            pspec_l05Sign_J4 k d77_ b78_ true
          else
            if ((bt d77_ b78_) == 44) = true then
              pspec_l05Sign_J4 k d77_ b78_ true
            else
              pspec_l05Sign_J4 k d77_ b78_ ((bt d77_ b78_) == 124)
def pspec_l05Sign_J1 (k : Nat) (d77_ : ByteArray) (b78_ : Int) (e79_ : Bool) : Option (GSign × Int) :=
  if e79_ = true then
    (pspec_l05Run k d77_ b78_).bind fun b80_ =>
    if (decide ((wr.i64 (b80_ - b78_)) ≤ 20)) = true then
      (pspec_l05Great k (bt d77_ b78_)).bind fun e81_ =>
      if e81_ = true then
        if 0 ≤ b78_ ∧ b78_ ≤ b80_ ∧ b80_ ≤ (d77_.size : Int) then
          some (GSign.mk 2 (d77_.extract (b78_ : Int).toNat (b80_ : Int).toNat) 0 b78_ false, b80_)
        else none
      else
        if 0 ≤ b78_ ∧ b78_ ≤ b80_ ∧ b80_ ≤ (d77_.size : Int) then
          some (GSign.mk 1 (d77_.extract (b78_ : Int).toNat (b80_ : Int).toNat) 0 b78_ false, b80_)
        else none
    else
      some (GSign.mk 6 (d77_.extract (b78_ : Int).toNat ((wr.i64 (b78_ + 1)) : Int).toNat) 0 b78_ false, wr.i64 (b78_ + 1))
  else
    (pspec_l05Figure k (bt d77_ b78_)).bind fun e82_ =>
    if e82_ = true then
      (pspec_l05Sign_L2 k d77_ k b78_ 0).bind fun out2 => match out2 with
      | .ret r => some r
      | .done (b85_, b86_) =>
        if (decide (b86_ ≤ 999999999)) = true then
          some (GSign.mk 3 (bs []) b86_ b78_ false, b85_)
        else
          some (GSign.mk 6 (d77_.extract (b78_ : Int).toNat ((wr.i64 (b78_ + 1)) : Int).toNat) 0 b78_ false, wr.i64 (b78_ + 1))
    else
      if ((bt d77_ b78_) == 39) = true then
        (pspec_l05Quoted k d77_ b78_).bind fun b88_ =>
        if (decide (b88_ > 0)) = true then
          if 0 ≤ (wr.i64 (b78_ + 1)) ∧ (wr.i64 (b78_ + 1)) ≤ (wr.i64 (b88_ - 1)) ∧ (wr.i64 (b88_ - 1)) ≤ (d77_.size : Int) then
            some (GSign.mk 1 (d77_.extract ((wr.i64 (b78_ + 1)) : Int).toNat ((wr.i64 (b88_ - 1)) : Int).toNat) 0 b78_ false, b88_)
          else none
        else
          some (GSign.mk 6 (d77_.extract (b78_ : Int).toNat ((wr.i64 (b78_ + 1)) : Int).toNat) 0 b78_ false, wr.i64 (b78_ + 1))
      else
        if ((bt d77_ b78_) == 33) = true then
          pspec_l05Sign_J3 k d77_ b78_ true
        else
          pspec_l05Sign_J3 k d77_ b78_ ((bt d77_ b78_) == 59)
/-- spec.l05Sign -/
def pspec_l05Sign (k : Nat) (d77_ : ByteArray) (b78_ : Int) : Option (GSign × Int) :=
  if 0 ≤ b78_ ∧ (b78_).toNat < d77_.size then
    if 0 ≤ b78_ ∧ b78_ ≤ (wr.i64 (b78_ + 1)) ∧ (wr.i64 (b78_ + 1)) ≤ (d77_.size : Int) then
      (pspec_l05Small k (bt d77_ b78_)).bind fun e96_ =>
      if e96_ = true then
        pspec_l05Sign_J1 k d77_ b78_ true
      else
        (pspec_l05Great k (bt d77_ b78_)).bind fun e97_ =>
        pspec_l05Sign_J1 k d77_ b78_ e97_
    else none
  else none
set_option maxHeartbeats 4000000 in
theorem cspec_l05Sign {k : Nat} {d77_ : ByteArray} {b78_ : Int} {r : GSign × Int} (h : pspec_l05Sign k d77_ b78_ = some r) : FnO Tryd.prog 44 [.v (.str d77_) [], .v (.int .i64 b78_) []] (.v (.tup [.agg [.int .i64 r.1.gKind, .str r.1.gText, .int .i64 r.1.gNum, .int .i64 r.1.gAt, .bool r.1.gNear], .int .i64 r.2]) []) [] := by
  refine FnO.of Tryd.func44 (rfl : Tryd.f44.body = some _) (Nat.le_of_ble_eq_true (by kernel_rfl)) (Nat.le_of_ble_eq_true (by kernel_rfl)) ?_
  intro w0 X0 Fin pv0 pb gt
  unfold pspec_l05Sign at h
  refine Wc.seq ?_
  refine Wc.region [] [] [0, 1, 4] [4] [] ⟨[(0, (.v (.str d77_), [])), (1, (.v (.int .i64 b78_), [])), (4, (.ptr 4 0, []))], [(4, .cells [.int .i64 0, .str (bs []), .int .i64 0, .int .i64 0, .bool false] [])], []⟩ _ (by kernel_rfl) .nil ?_
  refine Wc.seq ?_
  obtain ⟨h126, h⟩ := oguard h
  refine Wc.region [] [] [0, 1, 4, 6] [4] [] ⟨[(0, (.v (.str d77_), [])), (1, (.v (.int .i64 b78_), [])), (4, (.ptr 4 0, [])), (6, (.v (.int .u8 (bt d77_ b78_)), []))], [(4, .cells [.int .i64 0, .str (bs []), .int .i64 0, .int .i64 0, .bool false] [])], []⟩ _ (by kernel_rfl) (.cons h126 .nil) ?_
  refine Wc.seq ?_
  obtain ⟨h127, h⟩ := oguard h
  refine Wc.region [] [] [0, 1, 4, 6, 7] [4, 7] [] ⟨[(0, (.v (.str d77_), [])), (1, (.v (.int .i64 b78_), [])), (4, (.ptr 4 0, [])), (6, (.v (.int .u8 (bt d77_ b78_)), [])), (7, (.ptr 7 0, []))], [(4, .cells [.int .i64 0, .str (bs []), .int .i64 0, .int .i64 0, .bool false] []), (7, .cells [.int .i64 6, .str (d77_.extract (b78_ : Int).toNat ((wr.i64 (b78_ + 1)) : Int).toNat), .int .i64 0, .int .i64 b78_, .bool false] [])], []⟩ _ (by kernel_rfl) (.cons h127 .nil) ?_
  refine Wc.seq ?_
  refine Wc.region [] [] [0, 1, 4, 6, 7, 8] [4, 7] [] ⟨[(0, (.v (.str d77_), [])), (1, (.v (.int .i64 b78_), [])), (4, (.ptr 4 0, [])), (6, (.v (.int .u8 (bt d77_ b78_)), [])), (7, (.ptr 7 0, [])), (8, (.v (.int .i64 (wr.i64 (b78_ + 1))), []))], [(4, .cells [.int .i64 0, .str (bs []), .int .i64 0, .int .i64 0, .bool false] []), (7, .cells [.int .i64 6, .str (d77_.extract (b78_ : Int).toNat ((wr.i64 (b78_ + 1)) : Int).toNat), .int .i64 0, .int .i64 b78_, .bool false] [])], []⟩ _ (by kernel_rfl) .nil ?_
  refine Wc.seq ?_
  refine Wc.block ?_
  refine Wc.seqJ (fun st => ∃ (e79_ : Bool), st = ⟨[(0, (.v (.str d77_), [])), (1, (.v (.int .i64 b78_), [])), (4, (.ptr 4 0, [])), (6, (.v (.int .u8 (bt d77_ b78_)), [])), (7, (.ptr 7 0, [])), (8, (.v (.int .i64 (wr.i64 (b78_ + 1))), [])), (26, (.v (.bool e79_), []))], [(4, .cells [.int .i64 0, .str (bs []), .int .i64 0, .int .i64 0, .bool false] []), (7, .cells [.int .i64 6, .str (d77_.extract (b78_ : Int).toNat ((wr.i64 (b78_ + 1)) : Int).toNat), .int .i64 0, .int .i64 b78_, .bool false] [])], []⟩ ∧ pspec_l05Sign_J1 k d77_ b78_ e79_ = some r) ?_ ?_
  · obtain ⟨e96_, h168, h⟩ := obind h
    rcases oif h with ⟨h169, h⟩ | ⟨h169, h⟩
    · refine Wc.region [{}, { r := some (.v (.bool e96_) []) }, { re := some (.bool true) }] [] [0, 1, 4, 6, 7, 8, 26] [4, 7] [] ⟨[(0, (.v (.str d77_), [])), (1, (.v (.int .i64 b78_), [])), (4, (.ptr 4 0, [])), (6, (.v (.int .u8 (bt d77_ b78_)), [])), (7, (.ptr 7 0, [])), (8, (.v (.int .i64 (wr.i64 (b78_ + 1))), [])), (26, (.v (.bool true), []))], [(4, .cells [.int .i64 0, .str (bs []), .int .i64 0, .int .i64 0, .bool false] []), (7, .cells [.int .i64 6, .str (d77_.extract (b78_ : Int).toNat ((wr.i64 (b78_ + 1)) : Int).toNat), .int .i64 0, .int .i64 b78_, .bool false] [])], []⟩ _ (by kernel_rfl) (.cons (cspec_l05Small h168) (.cons (congrArg AV.bool h169) .nil)) ?_
      exact ⟨_, rfl, h⟩
    · obtain ⟨e97_, h170, h⟩ := obind h
      refine Wc.region [{}, { r := some (.v (.bool e96_) []) }, { re := some (.bool false) }, {}, { r := some (.v (.bool e97_) []) }] [] [0, 1, 4, 6, 7, 8, 26] [4, 7] [] ⟨[(0, (.v (.str d77_), [])), (1, (.v (.int .i64 b78_), [])), (4, (.ptr 4 0, [])), (6, (.v (.int .u8 (bt d77_ b78_)), [])), (7, (.ptr 7 0, [])), (8, (.v (.int .i64 (wr.i64 (b78_ + 1))), [])), (26, (.v (.bool e97_), []))], [(4, .cells [.int .i64 0, .str (bs []), .int .i64 0, .int .i64 0, .bool false] []), (7, .cells [.int .i64 6, .str (d77_.extract (b78_ : Int).toNat ((wr.i64 (b78_ + 1)) : Int).toNat), .int .i64 0, .int .i64 b78_, .bool false] [])], []⟩ _ (by kernel_rfl) (.cons (cspec_l05Small h168) (.cons (congrArg AV.bool h169) (.cons (cspec_l05Great h170) .nil))) ?_
      exact ⟨_, rfl, h⟩
  · rintro st ⟨e79_, rfl, h⟩
    rcases oif h with ⟨h128, h⟩ | ⟨h128, h⟩
    · refine Wc.condT h128 (by kernel_rfl) ?_
      refine Wc.seq ?_
      obtain ⟨b80_, h129, h⟩ := obind h
      refine Wc.region [{}, {}, { r := some (.v (.int .i64 b80_) []) }] [] [0, 1, 4, 6, 7, 8, 9] [4, 7] [] ⟨[(0, (.v (.str d77_), [])), (1, (.v (.int .i64 b78_), [])), (4, (.ptr 4 0, [])), (6, (.v (.int .u8 (bt d77_ b78_)), [])), (7, (.ptr 7 0, [])), (8, (.v (.int .i64 (wr.i64 (b78_ + 1))), [])), (9, (.v (.int .i64 b80_), []))], [(4, .cells [.int .i64 0, .str (bs []), .int .i64 0, .int .i64 0, .bool false] []), (7, .cells [.int .i64 6, .str (d77_.extract (b78_ : Int).toNat ((wr.i64 (b78_ + 1)) : Int).toNat), .int .i64 0, .int .i64 b78_, .bool false] [])], []⟩ _ (by kernel_rfl) (.cons (cspec_l05Run h129) .nil) ?_
      refine Wc.seq ?_
      refine Wc.region [] [] [0, 1, 4, 6, 7, 8, 9, 39] [4, 7] [] ⟨[(0, (.v (.str d77_), [])), (1, (.v (.int .i64 b78_), [])), (4, (.ptr 4 0, [])), (6, (.v (.int .u8 (bt d77_ b78_)), [])), (7, (.ptr 7 0, [])), (8, (.v (.int .i64 (wr.i64 (b78_ + 1))), [])), (9, (.v (.int .i64 b80_), [])), (39, (.v (.bool (decide ((wr.i64 (b80_ - b78_)) ≤ 20))), []))], [(4, .cells [.int .i64 0, .str (bs []), .int .i64 0, .int .i64 0, .bool false] []), (7, .cells [.int .i64 6, .str (d77_.extract (b78_ : Int).toNat ((wr.i64 (b78_ + 1)) : Int).toNat), .int .i64 0, .int .i64 b78_, .bool false] [])], []⟩ _ (by kernel_rfl) .nil ?_
      rcases oif h with ⟨h130, h⟩ | ⟨h130, h⟩
      · refine Wc.condT h130 (by kernel_rfl) ?_
        refine Wc.seq ?_
        refine Wc.region [] [] [0, 1, 4, 6, 7, 9] [4, 7] [] ⟨[(0, (.v (.str d77_), [])), (1, (.v (.int .i64 b78_), [])), (4, (.ptr 4 0, [])), (6, (.v (.int .u8 (bt d77_ b78_)), [])), (7, (.ptr 7 0, [])), (9, (.v (.int .i64 b80_), []))], [(4, .cells [.int .i64 0, .str (bs []), .int .i64 0, .int .i64 0, .bool false] []), (7, .cells [.int .i64 1, .str (d77_.extract (b78_ : Int).toNat ((wr.i64 (b78_ + 1)) : Int).toNat), .int .i64 0, .int .i64 b78_, .bool false] [])], []⟩ _ (by kernel_rfl) .nil ?_
        refine Wc.seq ?_
        refine Wc.seq ?_
        obtain ⟨e81_, h131, h⟩ := obind h
        refine Wc.region [{}, { r := some (.v (.bool e81_) []) }] [] [0, 1, 4, 7, 9, 42] [4, 7] [] ⟨[(0, (.v (.str d77_), [])), (1, (.v (.int .i64 b78_), [])), (4, (.ptr 4 0, [])), (7, (.ptr 7 0, [])), (9, (.v (.int .i64 b80_), [])), (42, (.v (.bool e81_), []))], [(4, .cells [.int .i64 0, .str (bs []), .int .i64 0, .int .i64 0, .bool false] []), (7, .cells [.int .i64 1, .str (d77_.extract (b78_ : Int).toNat ((wr.i64 (b78_ + 1)) : Int).toNat), .int .i64 0, .int .i64 b78_, .bool false] [])], []⟩ _ (by kernel_rfl) (.cons (cspec_l05Great h131) .nil) ?_
        rcases oif h with ⟨h132, h⟩ | ⟨h132, h⟩
        · refine Wc.condT h132 (by kernel_rfl) ?_
          refine Wc.region [] [] [0, 1, 4, 7, 9] [4, 7] [] ⟨[(0, (.v (.str d77_), [])), (1, (.v (.int .i64 b78_), [])), (4, (.ptr 4 0, [])), (7, (.ptr 7 0, [])), (9, (.v (.int .i64 b80_), []))], [(4, .cells [.int .i64 0, .str (bs []), .int .i64 0, .int .i64 0, .bool false] []), (7, .cells [.int .i64 2, .str (d77_.extract (b78_ : Int).toNat ((wr.i64 (b78_ + 1)) : Int).toNat), .int .i64 0, .int .i64 b78_, .bool false] [])], []⟩ _ (by kernel_rfl) .nil ?_
          refine Wc.seq ?_
          obtain ⟨h133, h⟩ := oguard h
          refine Wc.region [] [] [4, 7, 9] [4, 7] [] ⟨[(4, (.ptr 4 0, [])), (7, (.ptr 7 0, [])), (9, (.v (.int .i64 b80_), []))], [(4, .cells [.int .i64 0, .str (bs []), .int .i64 0, .int .i64 0, .bool false] []), (7, .cells [.int .i64 2, .str (d77_.extract (b78_ : Int).toNat (b80_ : Int).toNat), .int .i64 0, .int .i64 b78_, .bool false] [])], []⟩ _ (by kernel_rfl) (.cons h133 .nil) ?_
          refine Wc.region [] [] [4, 7, 8] [4, 7] [] ⟨[(4, (.ptr 4 0, [])), (7, (.ptr 7 0, [])), (8, (.v (.int .i64 b80_), []))], [(4, .cells [.int .i64 0, .str (bs []), .int .i64 0, .int .i64 0, .bool false] []), (7, .cells [.int .i64 2, .str (d77_.extract (b78_ : Int).toNat (b80_ : Int).toNat), .int .i64 0, .int .i64 b78_, .bool false] [])], []⟩ _ (by kernel_rfl) .nil ?_
          refine Wc.seq ?_
          refine Wc.region [] [] [4, 5] [4] [] ⟨[(4, (.ptr 4 0, [])), (5, (.v (.int .i64 b80_), []))], [(4, .cells [.int .i64 2, .str (d77_.extract (b78_ : Int).toNat (b80_ : Int).toNat), .int .i64 0, .int .i64 b78_, .bool false] [])], []⟩ _ (by kernel_rfl) .nil ?_
          refine Wc.ret ?_
          obtain rfl := Option.some.inj h
          exact ⟨.inl rfl, by kernel_rfl, by kernel_rfl⟩
        · refine Wc.condF h132 (by kernel_rfl) ?_
          refine Wc.fix (st' := ⟨[(0, (.v (.str d77_), [])), (1, (.v (.int .i64 b78_), [])), (4, (.ptr 4 0, [])), (7, (.ptr 7 0, [])), (9, (.v (.int .i64 b80_), []))], [(4, .cells [.int .i64 0, .str (bs []), .int .i64 0, .int .i64 0, .bool false] []), (7, .cells [.int .i64 1, .str (d77_.extract (b78_ : Int).toNat ((wr.i64 (b78_ + 1)) : Int).toNat), .int .i64 0, .int .i64 b78_, .bool false] [])], []⟩) [] [0, 1, 4, 7, 9] [4, 7] [] (by kernel_rfl) ?_
          refine Wc.skip ?_
          refine Wc.seq ?_
          obtain ⟨h134, h⟩ := oguard h
          refine Wc.region [] [] [4, 7, 9] [4, 7] [] ⟨[(4, (.ptr 4 0, [])), (7, (.ptr 7 0, [])), (9, (.v (.int .i64 b80_), []))], [(4, .cells [.int .i64 0, .str (bs []), .int .i64 0, .int .i64 0, .bool false] []), (7, .cells [.int .i64 1, .str (d77_.extract (b78_ : Int).toNat (b80_ : Int).toNat), .int .i64 0, .int .i64 b78_, .bool false] [])], []⟩ _ (by kernel_rfl) (.cons h134 .nil) ?_
          refine Wc.region [] [] [4, 7, 8] [4, 7] [] ⟨[(4, (.ptr 4 0, [])), (7, (.ptr 7 0, [])), (8, (.v (.int .i64 b80_), []))], [(4, .cells [.int .i64 0, .str (bs []), .int .i64 0, .int .i64 0, .bool false] []), (7, .cells [.int .i64 1, .str (d77_.extract (b78_ : Int).toNat (b80_ : Int).toNat), .int .i64 0, .int .i64 b78_, .bool false] [])], []⟩ _ (by kernel_rfl) .nil ?_
          refine Wc.seq ?_
          refine Wc.region [] [] [4, 5] [4] [] ⟨[(4, (.ptr 4 0, [])), (5, (.v (.int .i64 b80_), []))], [(4, .cells [.int .i64 1, .str (d77_.extract (b78_ : Int).toNat (b80_ : Int).toNat), .int .i64 0, .int .i64 b78_, .bool false] [])], []⟩ _ (by kernel_rfl) .nil ?_
          refine Wc.ret ?_
          obtain rfl := Option.some.inj h
          exact ⟨.inl rfl, by kernel_rfl, by kernel_rfl⟩
      · refine Wc.condF h130 (by kernel_rfl) ?_
        refine Wc.fix (st' := ⟨[(4, (.ptr 4 0, [])), (7, (.ptr 7 0, [])), (8, (.v (.int .i64 (wr.i64 (b78_ + 1))), []))], [(4, .cells [.int .i64 0, .str (bs []), .int .i64 0, .int .i64 0, .bool false] []), (7, .cells [.int .i64 6, .str (d77_.extract (b78_ : Int).toNat ((wr.i64 (b78_ + 1)) : Int).toNat), .int .i64 0, .int .i64 b78_, .bool false] [])], []⟩) [] [4, 7, 8] [4, 7] [] (by kernel_rfl) ?_
        refine Wc.skip ?_
        refine Wc.seq ?_
        refine Wc.region [] [] [4, 5] [4] [] ⟨[(4, (.ptr 4 0, [])), (5, (.v (.int .i64 (wr.i64 (b78_ + 1))), []))], [(4, .cells [.int .i64 6, .str (d77_.extract (b78_ : Int).toNat ((wr.i64 (b78_ + 1)) : Int).toNat), .int .i64 0, .int .i64 b78_, .bool false] [])], []⟩ _ (by kernel_rfl) .nil ?_
        refine Wc.ret ?_
        obtain rfl := Option.some.inj h
        exact ⟨.inl rfl, by kernel_rfl, by kernel_rfl⟩
    · refine Wc.condF h128 (by kernel_rfl) ?_
      refine Wc.seq ?_
      obtain ⟨e82_, h135, h⟩ := obind h
      refine Wc.region [{}, { r := some (.v (.bool e82_) []) }] [] [0, 1, 4, 6, 7, 8, 50] [4, 7] [] ⟨[(0, (.v (.str d77_), [])), (1, (.v (.int .i64 b78_), [])), (4, (.ptr 4 0, [])), (6, (.v (.int .u8 (bt d77_ b78_)), [])), (7, (.ptr 7 0, [])), (8, (.v (.int .i64 (wr.i64 (b78_ + 1))), [])), (50, (.v (.bool e82_), []))], [(4, .cells [.int .i64 0, .str (bs []), .int .i64 0, .int .i64 0, .bool false] []), (7, .cells [.int .i64 6, .str (d77_.extract (b78_ : Int).toNat ((wr.i64 (b78_ + 1)) : Int).toNat), .int .i64 0, .int .i64 b78_, .bool false] [])], []⟩ _ (by kernel_rfl) (.cons (cspec_l05Figure h135) .nil) ?_
      rcases oif h with ⟨h136, h⟩ | ⟨h136, h⟩
      · refine Wc.condT h136 (by kernel_rfl) ?_
        refine Wc.seq ?_
        refine Wc.region [] [] [0, 1, 4, 7, 8, 10] [4, 7] [] ⟨[(0, (.v (.str d77_), [])), (1, (.v (.int .i64 b78_), [])), (4, (.ptr 4 0, [])), (7, (.ptr 7 0, [])), (8, (.v (.int .i64 (wr.i64 (b78_ + 1))), [])), (10, (.v (.int .i64 b78_), []))], [(4, .cells [.int .i64 0, .str (bs []), .int .i64 0, .int .i64 0, .bool false] []), (7, .cells [.int .i64 6, .str (d77_.extract (b78_ : Int).toNat ((wr.i64 (b78_ + 1)) : Int).toNat), .int .i64 0, .int .i64 b78_, .bool false] [])], []⟩ _ (by kernel_rfl) .nil ?_
        refine Wc.seq ?_
        refine Wc.region [] [] [0, 1, 4, 7, 8, 10, 11] [4, 7] [] ⟨[(0, (.v (.str d77_), [])), (1, (.v (.int .i64 b78_), [])), (4, (.ptr 4 0, [])), (7, (.ptr 7 0, [])), (8, (.v (.int .i64 (wr.i64 (b78_ + 1))), [])), (10, (.v (.int .i64 b78_), [])), (11, (.v (.int .i64 0), []))], [(4, .cells [.int .i64 0, .str (bs []), .int .i64 0, .int .i64 0, .bool false] []), (7, .cells [.int .i64 6, .str (d77_.extract (b78_ : Int).toNat ((wr.i64 (b78_ + 1)) : Int).toNat), .int .i64 0, .int .i64 b78_, .bool false] [])], []⟩ _ (by kernel_rfl) .nil ?_
        obtain ⟨out2, h137, h⟩ := obind h
        refine Wc.seqJ (fun st => ∃ (b85_ : Int) (b86_ : Int), out2 = .done (b85_, b86_) ∧ st = ⟨[(1, (.v (.int .i64 b78_), [])), (4, (.ptr 4 0, [])), (7, (.ptr 7 0, [])), (8, (.v (.int .i64 (wr.i64 (b78_ + 1))), [])), (10, (.v (.int .i64 b85_), [])), (11, (.v (.int .i64 b86_), []))], [(4, .cells [.int .i64 0, .str (bs []), .int .i64 0, .int .i64 0, .bool false] []), (7, .cells [.int .i64 6, .str (d77_.extract (b78_ : Int).toNat ((wr.i64 (b78_ + 1)) : Int).toNat), .int .i64 0, .int .i64 b78_, .bool false] [])], []⟩) ?_ ?_
        · refine Wc.block ?_
          refine Wc.loop (fun m st => ∃ (b83_ : Int) (b84_ : Int), st = ⟨[(0, (.v (.str d77_), [])), (1, (.v (.int .i64 b78_), [])), (4, (.ptr 4 0, [])), (7, (.ptr 7 0, [])), (8, (.v (.int .i64 (wr.i64 (b78_ + 1))), [])), (10, (.v (.int .i64 b83_), [])), (11, (.v (.int .i64 b84_), []))], [(4, .cells [.int .i64 0, .str (bs []), .int .i64 0, .int .i64 0, .bool false] []), (7, .cells [.int .i64 6, .str (d77_.extract (b78_ : Int).toNat ((wr.i64 (b78_ + 1)) : Int).toNat), .int .i64 0, .int .i64 b78_, .bool false] [])], []⟩ ∧ pspec_l05Sign_L2 k d77_ m b83_ b84_ = some out2) ?_ k ⟨_, _, rfl, h137⟩
          rintro m st ⟨b83_, b84_, rfl, h137⟩
          cases m with
          | zero => exact (onone h137).elim
          | succ m =>
            refine Wc.seq ?_
            refine Wc.seq ?_
            rcases oif h137 with ⟨h138, h137⟩ | ⟨h138, h137⟩
            · obtain ⟨h139, h137⟩ := oguard h137
              obtain ⟨e87_, h140, h137⟩ := obind h137
              rcases oif h137 with ⟨h141, h137⟩ | ⟨h141, h137⟩
              · refine Wc.region [{}, {}, {}, {}, { re := some (.bool true) }, {}, {}, {}, { r := some (.v (.bool e87_) []) }, {}, { re := some (.bool true) }] [] [0, 1, 4, 7, 8, 10, 11, 67] [4, 7] [] ⟨[(0, (.v (.str d77_), [])), (1, (.v (.int .i64 b78_), [])), (4, (.ptr 4 0, [])), (7, (.ptr 7 0, [])), (8, (.v (.int .i64 (wr.i64 (b78_ + 1))), [])), (10, (.v (.int .i64 b83_), [])), (11, (.v (.int .i64 b84_), [])), (67, (.v (.bool (decide (b84_ ≤ 999999999))), []))], [(4, .cells [.int .i64 0, .str (bs []), .int .i64 0, .int .i64 0, .bool false] []), (7, .cells [.int .i64 6, .str (d77_.extract (b78_ : Int).toNat ((wr.i64 (b78_ + 1)) : Int).toNat), .int .i64 0, .int .i64 b78_, .bool false] [])], []⟩ _ (by kernel_rfl) (.cons (congrArg AV.bool h138) (.cons h139 (.cons (cspec_l05Figure h140) (.cons (congrArg AV.bool h141) .nil)))) ?_
                rcases oif h137 with ⟨h142, h137⟩ | ⟨h142, h137⟩
                · refine Wc.condT h142 (by kernel_rfl) ?_
                  refine Wc.fix (st' := ⟨[(0, (.v (.str d77_), [])), (1, (.v (.int .i64 b78_), [])), (4, (.ptr 4 0, [])), (7, (.ptr 7 0, [])), (8, (.v (.int .i64 (wr.i64 (b78_ + 1))), [])), (10, (.v (.int .i64 b83_), [])), (11, (.v (.int .i64 b84_), []))], [(4, .cells [.int .i64 0, .str (bs []), .int .i64 0, .int .i64 0, .bool false] []), (7, .cells [.int .i64 6, .str (d77_.extract (b78_ : Int).toNat ((wr.i64 (b78_ + 1)) : Int).toNat), .int .i64 0, .int .i64 b78_, .bool false] [])], []⟩) [] [0, 1, 4, 7, 8, 10, 11] [4, 7] [] (by kernel_rfl) ?_
                  refine Wc.skip ?_
                  refine Wc.block ?_
                  refine Wc.seq ?_
                  obtain ⟨h143, h137⟩ := oguard h137
                  refine Wc.region [] [] [0, 1, 4, 7, 8, 10, 11] [4, 7] [] ⟨[(0, (.v (.str d77_), [])), (1, (.v (.int .i64 b78_), [])), (4, (.ptr 4 0, [])), (7, (.ptr 7 0, [])), (8, (.v (.int .i64 (wr.i64 (b78_ + 1))), [])), (10, (.v (.int .i64 b83_), [])), (11, (.v (.int .i64 (wr.i64 ((wr.i64 ((wr.i64 (10 * b84_)) + (wr.i64 (bt d77_ b83_)))) - 48))), []))], [(4, .cells [.int .i64 0, .str (bs []), .int .i64 0, .int .i64 0, .bool false] []), (7, .cells [.int .i64 6, .str (d77_.extract (b78_ : Int).toNat ((wr.i64 (b78_ + 1)) : Int).toNat), .int .i64 0, .int .i64 b78_, .bool false] [])], []⟩ _ (by kernel_rfl) (.cons h143 .nil) ?_
                  refine Wc.region [] [] [0, 1, 4, 7, 8, 10, 11] [4, 7] [] ⟨[(0, (.v (.str d77_), [])), (1, (.v (.int .i64 b78_), [])), (4, (.ptr 4 0, [])), (7, (.ptr 7 0, [])), (8, (.v (.int .i64 (wr.i64 (b78_ + 1))), [])), (10, (.v (.int .i64 (wr.i64 (b83_ + 1))), [])), (11, (.v (.int .i64 (wr.i64 ((wr.i64 ((wr.i64 (10 * b84_)) + (wr.i64 (bt d77_ b83_)))) - 48))), []))], [(4, .cells [.int .i64 0, .str (bs []), .int .i64 0, .int .i64 0, .bool false] []), (7, .cells [.int .i64 6, .str (d77_.extract (b78_ : Int).toNat ((wr.i64 (b78_ + 1)) : Int).toNat), .int .i64 0, .int .i64 b78_, .bool false] [])], []⟩ _ (by kernel_rfl) .nil ?_
                  exact ⟨_, Nat.lt_succ_self _, _, _, rfl, h137⟩
                · refine Wc.condF h142 (by kernel_rfl) ?_
                  refine Wc.fix (st' := ⟨[(1, (.v (.int .i64 b78_), [])), (4, (.ptr 4 0, [])), (7, (.ptr 7 0, [])), (8, (.v (.int .i64 (wr.i64 (b78_ + 1))), [])), (10, (.v (.int .i64 b83_), [])), (11, (.v (.int .i64 b84_), []))], [(4, .cells [.int .i64 0, .str (bs []), .int .i64 0, .int .i64 0, .bool false] []), (7, .cells [.int .i64 6, .str (d77_.extract (b78_ : Int).toNat ((wr.i64 (b78_ + 1)) : Int).toNat), .int .i64 0, .int .i64 b78_, .bool false] [])], []⟩) [] [1, 4, 7, 8, 10, 11] [4, 7] [] (by kernel_rfl) ?_
                  refine Wc.exit ?_
                  obtain rfl := Option.some.inj h137
                  exact ⟨_, _, rfl, rfl⟩
              · refine Wc.region [{}, {}, {}, {}, { re := some (.bool true) }, {}, {}, {}, { r := some (.v (.bool e87_) []) }, {}, { re := some (.bool false) }] [] [0, 1, 4, 7, 8, 10, 11, 67] [4, 7] [] ⟨[(0, (.v (.str d77_), [])), (1, (.v (.int .i64 b78_), [])), (4, (.ptr 4 0, [])), (7, (.ptr 7 0, [])), (8, (.v (.int .i64 (wr.i64 (b78_ + 1))), [])), (10, (.v (.int .i64 b83_), [])), (11, (.v (.int .i64 b84_), [])), (67, (.v (.bool false), []))], [(4, .cells [.int .i64 0, .str (bs []), .int .i64 0, .int .i64 0, .bool false] []), (7, .cells [.int .i64 6, .str (d77_.extract (b78_ : Int).toNat ((wr.i64 (b78_ + 1)) : Int).toNat), .int .i64 0, .int .i64 b78_, .bool false] [])], []⟩ _ (by kernel_rfl) (.cons (congrArg AV.bool h138) (.cons h139 (.cons (cspec_l05Figure h140) (.cons (congrArg AV.bool h141) .nil)))) ?_
                refine Wc.condF rfl (by kernel_rfl) ?_
                refine Wc.fix (st' := ⟨[(1, (.v (.int .i64 b78_), [])), (4, (.ptr 4 0, [])), (7, (.ptr 7 0, [])), (8, (.v (.int .i64 (wr.i64 (b78_ + 1))), [])), (10, (.v (.int .i64 b83_), [])), (11, (.v (.int .i64 b84_), []))], [(4, .cells [.int .i64 0, .str (bs []), .int .i64 0, .int .i64 0, .bool false] []), (7, .cells [.int .i64 6, .str (d77_.extract (b78_ : Int).toNat ((wr.i64 (b78_ + 1)) : Int).toNat), .int .i64 0, .int .i64 b78_, .bool false] [])], []⟩) [] [1, 4, 7, 8, 10, 11] [4, 7] [] (by kernel_rfl) ?_
                refine Wc.exit ?_
                obtain rfl := Option.some.inj h137
                exact ⟨_, _, rfl, rfl⟩
            · refine Wc.region [{}, {}, {}, {}, { re := some (.bool false) }] [] [0, 1, 4, 7, 8, 10, 11, 67] [4, 7] [] ⟨[(0, (.v (.str d77_), [])), (1, (.v (.int .i64 b78_), [])), (4, (.ptr 4 0, [])), (7, (.ptr 7 0, [])), (8, (.v (.int .i64 (wr.i64 (b78_ + 1))), [])), (10, (.v (.int .i64 b83_), [])), (11, (.v (.int .i64 b84_), [])), (67, (.v (.bool false), []))], [(4, .cells [.int .i64 0, .str (bs []), .int .i64 0, .int .i64 0, .bool false] []), (7, .cells [.int .i64 6, .str (d77_.extract (b78_ : Int).toNat ((wr.i64 (b78_ + 1)) : Int).toNat), .int .i64 0, .int .i64 b78_, .bool false] [])], []⟩ _ (by kernel_rfl) (.cons (congrArg AV.bool h138) .nil) ?_
              refine Wc.condF rfl (by kernel_rfl) ?_
              refine Wc.fix (st' := ⟨[(1, (.v (.int .i64 b78_), [])), (4, (.ptr 4 0, [])), (7, (.ptr 7 0, [])), (8, (.v (.int .i64 (wr.i64 (b78_ + 1))), [])), (10, (.v (.int .i64 b83_), [])), (11, (.v (.int .i64 b84_), []))], [(4, .cells [.int .i64 0, .str (bs []), .int .i64 0, .int .i64 0, .bool false] []), (7, .cells [.int .i64 6, .str (d77_.extract (b78_ : Int).toNat ((wr.i64 (b78_ + 1)) : Int).toNat), .int .i64 0, .int .i64 b78_, .bool false] [])], []⟩) [] [1, 4, 7, 8, 10, 11] [4, 7] [] (by kernel_rfl) ?_
              refine Wc.exit ?_
              obtain rfl := Option.some.inj h137
              exact ⟨_, _, rfl, rfl⟩
        · rintro st ⟨b85_, b86_, rfl, rfl⟩
          refine Wc.seq ?_
          refine Wc.region [] [] [1, 4, 7, 8, 10, 11, 79] [4, 7] [] ⟨[(1, (.v (.int .i64 b78_), [])), (4, (.ptr 4 0, [])), (7, (.ptr 7 0, [])), (8, (.v (.int .i64 (wr.i64 (b78_ + 1))), [])), (10, (.v (.int .i64 b85_), [])), (11, (.v (.int .i64 b86_), [])), (79, (.v (.bool (decide (b86_ ≤ 999999999))), []))], [(4, .cells [.int .i64 0, .str (bs []), .int .i64 0, .int .i64 0, .bool false] []), (7, .cells [.int .i64 6, .str (d77_.extract (b78_ : Int).toNat ((wr.i64 (b78_ + 1)) : Int).toNat), .int .i64 0, .int .i64 b78_, .bool false] [])], []⟩ _ (by kernel_rfl) .nil ?_
          rcases oif h with ⟨h144, h⟩ | ⟨h144, h⟩
          · refine Wc.condT h144 (by kernel_rfl) ?_
            refine Wc.seq ?_
            refine Wc.region [] [] [4, 5] [4] [] ⟨[(4, (.ptr 4 0, [])), (5, (.v (.int .i64 b85_), []))], [(4, .cells [.int .i64 3, .str (bs []), .int .i64 b86_, .int .i64 b78_, .bool false] [])], []⟩ _ (by kernel_rfl) .nil ?_
            refine Wc.ret ?_
            obtain rfl := Option.some.inj h
            exact ⟨.inl rfl, by kernel_rfl, by kernel_rfl⟩
          · refine Wc.condF h144 (by kernel_rfl) ?_
            refine Wc.fix (st' := ⟨[(4, (.ptr 4 0, [])), (7, (.ptr 7 0, [])), (8, (.v (.int .i64 (wr.i64 (b78_ + 1))), []))], [(4, .cells [.int .i64 0, .str (bs []), .int .i64 0, .int .i64 0, .bool false] []), (7, .cells [.int .i64 6, .str (d77_.extract (b78_ : Int).toNat ((wr.i64 (b78_ + 1)) : Int).toNat), .int .i64 0, .int .i64 b78_, .bool false] [])], []⟩) [] [4, 7, 8] [4, 7] [] (by kernel_rfl) ?_
            refine Wc.skip ?_
            refine Wc.seq ?_
            refine Wc.region [] [] [4, 5] [4] [] ⟨[(4, (.ptr 4 0, [])), (5, (.v (.int .i64 (wr.i64 (b78_ + 1))), []))], [(4, .cells [.int .i64 6, .str (d77_.extract (b78_ : Int).toNat ((wr.i64 (b78_ + 1)) : Int).toNat), .int .i64 0, .int .i64 b78_, .bool false] [])], []⟩ _ (by kernel_rfl) .nil ?_
            refine Wc.ret ?_
            obtain rfl := Option.some.inj h
            exact ⟨.inl rfl, by kernel_rfl, by kernel_rfl⟩
      · refine Wc.condF h136 (by kernel_rfl) ?_
        refine Wc.seq ?_
        refine Wc.region [] [] [0, 1, 4, 6, 7, 8, 84] [4, 7] [] ⟨[(0, (.v (.str d77_), [])), (1, (.v (.int .i64 b78_), [])), (4, (.ptr 4 0, [])), (6, (.v (.int .u8 (bt d77_ b78_)), [])), (7, (.ptr 7 0, [])), (8, (.v (.int .i64 (wr.i64 (b78_ + 1))), [])), (84, (.v (.bool ((bt d77_ b78_) == 39)), []))], [(4, .cells [.int .i64 0, .str (bs []), .int .i64 0, .int .i64 0, .bool false] []), (7, .cells [.int .i64 6, .str (d77_.extract (b78_ : Int).toNat ((wr.i64 (b78_ + 1)) : Int).toNat), .int .i64 0, .int .i64 b78_, .bool false] [])], []⟩ _ (by kernel_rfl) .nil ?_
        rcases oif h with ⟨h145, h⟩ | ⟨h145, h⟩
        · refine Wc.condT h145 (by kernel_rfl) ?_
          refine Wc.seq ?_
          obtain ⟨b88_, h146, h⟩ := obind h
          refine Wc.region [{}, {}, { r := some (.v (.int .i64 b88_) []) }] [] [0, 1, 4, 7, 8, 12] [4, 7] [] ⟨[(0, (.v (.str d77_), [])), (1, (.v (.int .i64 b78_), [])), (4, (.ptr 4 0, [])), (7, (.ptr 7 0, [])), (8, (.v (.int .i64 (wr.i64 (b78_ + 1))), [])), (12, (.v (.int .i64 b88_), []))], [(4, .cells [.int .i64 0, .str (bs []), .int .i64 0, .int .i64 0, .bool false] []), (7, .cells [.int .i64 6, .str (d77_.extract (b78_ : Int).toNat ((wr.i64 (b78_ + 1)) : Int).toNat), .int .i64 0, .int .i64 b78_, .bool false] [])], []⟩ _ (by kernel_rfl) (.cons (cspec_l05Quoted h146) .nil) ?_
          refine Wc.seq ?_
          refine Wc.region [] [] [0, 1, 4, 7, 8, 12, 91] [4, 7] [] ⟨[(0, (.v (.str d77_), [])), (1, (.v (.int .i64 b78_), [])), (4, (.ptr 4 0, [])), (7, (.ptr 7 0, [])), (8, (.v (.int .i64 (wr.i64 (b78_ + 1))), [])), (12, (.v (.int .i64 b88_), [])), (91, (.v (.bool (decide (b88_ > 0))), []))], [(4, .cells [.int .i64 0, .str (bs []), .int .i64 0, .int .i64 0, .bool false] []), (7, .cells [.int .i64 6, .str (d77_.extract (b78_ : Int).toNat ((wr.i64 (b78_ + 1)) : Int).toNat), .int .i64 0, .int .i64 b78_, .bool false] [])], []⟩ _ (by kernel_rfl) .nil ?_
          rcases oif h with ⟨h147, h⟩ | ⟨h147, h⟩
          · refine Wc.condT h147 (by kernel_rfl) ?_
            refine Wc.seq ?_
            obtain ⟨h148, h⟩ := oguard h
            refine Wc.region [] [] [4, 7, 12] [4, 7] [] ⟨[(4, (.ptr 4 0, [])), (7, (.ptr 7 0, [])), (12, (.v (.int .i64 b88_), []))], [(4, .cells [.int .i64 0, .str (bs []), .int .i64 0, .int .i64 0, .bool false] []), (7, .cells [.int .i64 1, .str (d77_.extract ((wr.i64 (b78_ + 1)) : Int).toNat ((wr.i64 (b88_ - 1)) : Int).toNat), .int .i64 0, .int .i64 b78_, .bool false] [])], []⟩ _ (by kernel_rfl) (.cons h148 .nil) ?_
            refine Wc.region [] [] [4, 7, 8] [4, 7] [] ⟨[(4, (.ptr 4 0, [])), (7, (.ptr 7 0, [])), (8, (.v (.int .i64 b88_), []))], [(4, .cells [.int .i64 0, .str (bs []), .int .i64 0, .int .i64 0, .bool false] []), (7, .cells [.int .i64 1, .str (d77_.extract ((wr.i64 (b78_ + 1)) : Int).toNat ((wr.i64 (b88_ - 1)) : Int).toNat), .int .i64 0, .int .i64 b78_, .bool false] [])], []⟩ _ (by kernel_rfl) .nil ?_
            refine Wc.seq ?_
            refine Wc.region [] [] [4, 5] [4] [] ⟨[(4, (.ptr 4 0, [])), (5, (.v (.int .i64 b88_), []))], [(4, .cells [.int .i64 1, .str (d77_.extract ((wr.i64 (b78_ + 1)) : Int).toNat ((wr.i64 (b88_ - 1)) : Int).toNat), .int .i64 0, .int .i64 b78_, .bool false] [])], []⟩ _ (by kernel_rfl) .nil ?_
            refine Wc.ret ?_
            obtain rfl := Option.some.inj h
            exact ⟨.inl rfl, by kernel_rfl, by kernel_rfl⟩
          · refine Wc.condF h147 (by kernel_rfl) ?_
            refine Wc.fix (st' := ⟨[(4, (.ptr 4 0, [])), (7, (.ptr 7 0, [])), (8, (.v (.int .i64 (wr.i64 (b78_ + 1))), []))], [(4, .cells [.int .i64 0, .str (bs []), .int .i64 0, .int .i64 0, .bool false] []), (7, .cells [.int .i64 6, .str (d77_.extract (b78_ : Int).toNat ((wr.i64 (b78_ + 1)) : Int).toNat), .int .i64 0, .int .i64 b78_, .bool false] [])], []⟩) [] [4, 7, 8] [4, 7] [] (by kernel_rfl) ?_
            refine Wc.skip ?_
            refine Wc.seq ?_
            refine Wc.region [] [] [4, 5] [4] [] ⟨[(4, (.ptr 4 0, [])), (5, (.v (.int .i64 (wr.i64 (b78_ + 1))), []))], [(4, .cells [.int .i64 6, .str (d77_.extract (b78_ : Int).toNat ((wr.i64 (b78_ + 1)) : Int).toNat), .int .i64 0, .int .i64 b78_, .bool false] [])], []⟩ _ (by kernel_rfl) .nil ?_
            refine Wc.ret ?_
            obtain rfl := Option.some.inj h
            exact ⟨.inl rfl, by kernel_rfl, by kernel_rfl⟩
        · refine Wc.condF h145 (by kernel_rfl) ?_
          refine Wc.seqJ (fun st => ∃ (e89_ : Bool), st = ⟨[(0, (.v (.str d77_), [])), (1, (.v (.int .i64 b78_), [])), (4, (.ptr 4 0, [])), (6, (.v (.int .u8 (bt d77_ b78_)), [])), (7, (.ptr 7 0, [])), (8, (.v (.int .i64 (wr.i64 (b78_ + 1))), [])), (101, (.v (.bool e89_), []))], [(4, .cells [.int .i64 0, .str (bs []), .int .i64 0, .int .i64 0, .bool false] []), (7, .cells [.int .i64 6, .str (d77_.extract (b78_ : Int).toNat ((wr.i64 (b78_ + 1)) : Int).toNat), .int .i64 0, .int .i64 b78_, .bool false] [])], []⟩ ∧ pspec_l05Sign_J3 k d77_ b78_ e89_ = some r) ?_ ?_
          · rcases oif h with ⟨h167, h⟩ | ⟨h167, h⟩
            · refine Wc.region [{}, {}, { re := some (.bool true) }] [] [0, 1, 4, 6, 7, 8, 101] [4, 7] [] ⟨[(0, (.v (.str d77_), [])), (1, (.v (.int .i64 b78_), [])), (4, (.ptr 4 0, [])), (6, (.v (.int .u8 (bt d77_ b78_)), [])), (7, (.ptr 7 0, [])), (8, (.v (.int .i64 (wr.i64 (b78_ + 1))), [])), (101, (.v (.bool true), []))], [(4, .cells [.int .i64 0, .str (bs []), .int .i64 0, .int .i64 0, .bool false] []), (7, .cells [.int .i64 6, .str (d77_.extract (b78_ : Int).toNat ((wr.i64 (b78_ + 1)) : Int).toNat), .int .i64 0, .int .i64 b78_, .bool false] [])], []⟩ _ (by kernel_rfl) (.cons (congrArg AV.bool h167) .nil) ?_
              exact ⟨_, rfl, h⟩
            · refine Wc.region [{}, {}, { re := some (.bool false) }] [] [0, 1, 4, 6, 7, 8, 101] [4, 7] [] ⟨[(0, (.v (.str d77_), [])), (1, (.v (.int .i64 b78_), [])), (4, (.ptr 4 0, [])), (6, (.v (.int .u8 (bt d77_ b78_)), [])), (7, (.ptr 7 0, [])), (8, (.v (.int .i64 (wr.i64 (b78_ + 1))), [])), (101, (.v (.bool ((bt d77_ b78_) == 59)), []))], [(4, .cells [.int .i64 0, .str (bs []), .int .i64 0, .int .i64 0, .bool false] []), (7, .cells [.int .i64 6, .str (d77_.extract (b78_ : Int).toNat ((wr.i64 (b78_ + 1)) : Int).toNat), .int .i64 0, .int .i64 b78_, .bool false] [])], []⟩ _ (by kernel_rfl) (.cons (congrArg AV.bool h167) .nil) ?_
              exact ⟨_, rfl, h⟩
          · rintro st ⟨e89_, rfl, h⟩
            rcases oif h with ⟨h149, h⟩ | ⟨h149, h⟩
            · refine Wc.condT h149 (by kernel_rfl) ?_
              refine Wc.region [] [] [4, 7, 8] [4, 7] [] ⟨[(4, (.ptr 4 0, [])), (7, (.ptr 7 0, [])), (8, (.v (.int .i64 (wr.i64 (b78_ + 1))), []))], [(4, .cells [.int .i64 0, .str (bs []), .int .i64 0, .int .i64 0, .bool false] []), (7, .cells [.int .i64 1, .str (d77_.extract (b78_ : Int).toNat ((wr.i64 (b78_ + 1)) : Int).toNat), .int .i64 0, .int .i64 b78_, .bool false] [])], []⟩ _ (by kernel_rfl) .nil ?_
              refine Wc.seq ?_
              refine Wc.region [] [] [4, 5] [4] [] ⟨[(4, (.ptr 4 0, [])), (5, (.v (.int .i64 (wr.i64 (b78_ + 1))), []))], [(4, .cells [.int .i64 1, .str (d77_.extract (b78_ : Int).toNat ((wr.i64 (b78_ + 1)) : Int).toNat), .int .i64 0, .int .i64 b78_, .bool false] [])], []⟩ _ (by kernel_rfl) .nil ?_
              refine Wc.ret ?_
              obtain rfl := Option.some.inj h
              exact ⟨.inl rfl, by kernel_rfl, by kernel_rfl⟩
            · refine Wc.condF h149 (by kernel_rfl) ?_
              refine Wc.seqJ (fun st => ∃ (e90_ : Bool), st = ⟨[(0, (.v (.str d77_), [])), (1, (.v (.int .i64 b78_), [])), (4, (.ptr 4 0, [])), (6, (.v (.int .u8 (bt d77_ b78_)), [])), (7, (.ptr 7 0, [])), (8, (.v (.int .i64 (wr.i64 (b78_ + 1))), [])), (109, (.v (.bool e90_), []))], [(4, .cells [.int .i64 0, .str (bs []), .int .i64 0, .int .i64 0, .bool false] []), (7, .cells [.int .i64 6, .str (d77_.extract (b78_ : Int).toNat ((wr.i64 (b78_ + 1)) : Int).toNat), .int .i64 0, .int .i64 b78_, .bool false] [])], []⟩ ∧ pspec_l05Sign_J4 k d77_ b78_ e90_ = some r) ?_ ?_
              · rcases oif h with ⟨h162, h⟩ | ⟨h162, h⟩
                · refine Wc.region [{}, {}, { re := some (.bool true) }] [] [0, 1, 4, 6, 7, 8, 109] [4, 7] [] ⟨[(0, (.v (.str d77_), [])), (1, (.v (.int .i64 b78_), [])), (4, (.ptr 4 0, [])), (6, (.v (.int .u8 (bt d77_ b78_)), [])), (7, (.ptr 7 0, [])), (8, (.v (.int .i64 (wr.i64 (b78_ + 1))), [])), (109, (.v (.bool true), []))], [(4, .cells [.int .i64 0, .str (bs []), .int .i64 0, .int .i64 0, .bool false] []), (7, .cells [.int .i64 6, .str (d77_.extract (b78_ : Int).toNat ((wr.i64 (b78_ + 1)) : Int).toNat), .int .i64 0, .int .i64 b78_, .bool false] [])], []⟩ _ (by kernel_rfl) (.cons (congrArg AV.bool h162) .nil) ?_
                  exact ⟨_, rfl, h⟩
                · rcases oif h with ⟨h163, h⟩ | ⟨h163, h⟩
                  · refine Wc.region [{}, {}, { re := some (.bool false) }, {}, {}, {}, { re := some (.bool true) }] [] [0, 1, 4, 6, 7, 8, 109] [4, 7] [] ⟨[(0, (.v (.str d77_), [])), (1, (.v (.int .i64 b78_), [])), (4, (.ptr 4 0, [])), (6, (.v (.int .u8 (bt d77_ b78_)), [])), (7, (.ptr 7 0, [])), (8, (.v (.int .i64 (wr.i64 (b78_ + 1))), [])), (109, (.v (.bool true), []))], [(4, .cells [.int .i64 0, .str (bs []), .int .i64 0, .int .i64 0, .bool false] []), (7, .cells [.int .i64 6, .str (d77_.extract (b78_ : Int).toNat ((wr.i64 (b78_ + 1)) : Int).toNat), .int .i64 0, .int .i64 b78_, .bool false] [])], []⟩ _ (by kernel_rfl) (.cons (congrArg AV.bool h162) (.cons (congrArg AV.bool h163) .nil)) ?_
                    exact ⟨_, rfl, h⟩
                  · rcases oif h with ⟨h164, h⟩ | ⟨h164, h⟩
                    · refine Wc.region [{}, {}, { re := some (.bool false) }, {}, {}, {}, { re := some (.bool false) }, {}, {}, {}, { re := some (.bool true) }] [] [0, 1, 4, 6, 7, 8, 109] [4, 7] [] ⟨[(0, (.v (.str d77_), [])), (1, (.v (.int .i64 b78_), [])), (4, (.ptr 4 0, [])), (6, (.v (.int .u8 (bt d77_ b78_)), [])), (7, (.ptr 7 0, [])), (8, (.v (.int .i64 (wr.i64 (b78_ + 1))), [])), (109, (.v (.bool true), []))], [(4, .cells [.int .i64 0, .str (bs []), .int .i64 0, .int .i64 0, .bool false] []), (7, .cells [.int .i64 6, .str (d77_.extract (b78_ : Int).toNat ((wr.i64 (b78_ + 1)) : Int).toNat), .int .i64 0, .int .i64 b78_, .bool false] [])], []⟩ _ (by kernel_rfl) (.cons (congrArg AV.bool h162) (.cons (congrArg AV.bool h163) (.cons (congrArg AV.bool h164) .nil))) ?_
                      exact ⟨_, rfl, h⟩
                    · rcases oif h with ⟨h165, h⟩ | ⟨h165, h⟩
                      · refine Wc.region [{}, {}, { re := some (.bool false) }, {}, {}, {}, { re := some (.bool false) }, {}, {}, {}, { re := some (.bool false) }, {}, {}, {}, { re := some (.bool true) }] [] [0, 1, 4, 6, 7, 8, 109] [4, 7] [] ⟨[(0, (.v (.str d77_), [])), (1, (.v (.int .i64 b78_), [])), (4, (.ptr 4 0, [])), (6, (.v (.int .u8 (bt d77_ b78_)), [])), (7, (.ptr 7 0, [])), (8, (.v (.int .i64 (wr.i64 (b78_ + 1))), [])), (109, (.v (.bool true), []))], [(4, .cells [.int .i64 0, .str (bs []), .int .i64 0, .int .i64 0, .bool false] []), (7, .cells [.int .i64 6, .str (d77_.extract (b78_ : Int).toNat ((wr.i64 (b78_ + 1)) : Int).toNat), .int .i64 0, .int .i64 b78_, .bool false] [])], []⟩ _ (by kernel_rfl) (.cons (congrArg AV.bool h162) (.cons (congrArg AV.bool h163) (.cons (congrArg AV.bool h164) (.cons (congrArg AV.bool h165) .nil)))) ?_
                        exact ⟨_, rfl, h⟩
                      · rcases oif h with ⟨h166, h⟩ | ⟨h166, h⟩
                        · refine Wc.region [{}, {}, { re := some (.bool false) }, {}, {}, {}, { re := some (.bool false) }, {}, {}, {}, { re := some (.bool false) }, {}, {}, {}, { re := some (.bool false) }, {}, {}, {}, { re := some (.bool true) }] [] [0, 1, 4, 6, 7, 8, 109] [4, 7] [] ⟨[(0, (.v (.str d77_), [])), (1, (.v (.int .i64 b78_), [])), (4, (.ptr 4 0, [])), (6, (.v (.int .u8 (bt d77_ b78_)), [])), (7, (.ptr 7 0, [])), (8, (.v (.int .i64 (wr.i64 (b78_ + 1))), [])), (109, (.v (.bool true), []))], [(4, .cells [.int .i64 0, .str (bs []), .int .i64 0, .int .i64 0, .bool false] []), (7, .cells [.int .i64 6, .str (d77_.extract (b78_ : Int).toNat ((wr.i64 (b78_ + 1)) : Int).toNat), .int .i64 0, .int .i64 b78_, .bool false] [])], []⟩ _ (by kernel_rfl) (.cons (congrArg AV.bool h162) (.cons (congrArg AV.bool h163) (.cons (congrArg AV.bool h164) (.cons (congrArg AV.bool h165) (.cons (congrArg AV.bool h166) .nil))))) ?_
                          exact ⟨_, rfl, h⟩
                        · refine Wc.region [{}, {}, { re := some (.bool false) }, {}, {}, {}, { re := some (.bool false) }, {}, {}, {}, { re := some (.bool false) }, {}, {}, {}, { re := some (.bool false) }, {}, {}, {}, { re := some (.bool false) }] [] [0, 1, 4, 6, 7, 8, 109] [4, 7] [] ⟨[(0, (.v (.str d77_), [])), (1, (.v (.int .i64 b78_), [])), (4, (.ptr 4 0, [])), (6, (.v (.int .u8 (bt d77_ b78_)), [])), (7, (.ptr 7 0, [])), (8, (.v (.int .i64 (wr.i64 (b78_ + 1))), [])), (109, (.v (.bool ((bt d77_ b78_) == 124)), []))], [(4, .cells [.int .i64 0, .str (bs []), .int .i64 0, .int .i64 0, .bool false] []), (7, .cells [.int .i64 6, .str (d77_.extract (b78_ : Int).toNat ((wr.i64 (b78_ + 1)) : Int).toNat), .int .i64 0, .int .i64 b78_, .bool false] [])], []⟩ _ (by kernel_rfl) (.cons (congrArg AV.bool h162) (.cons (congrArg AV.bool h163) (.cons (congrArg AV.bool h164) (.cons (congrArg AV.bool h165) (.cons (congrArg AV.bool h166) .nil))))) ?_
                          exact ⟨_, rfl, h⟩
              · rintro st ⟨e90_, rfl, h⟩
                rcases oif h with ⟨h150, h⟩ | ⟨h150, h⟩
                · refine Wc.condT h150 (by kernel_rfl) ?_
                  refine Wc.region [] [] [4, 7, 8] [4, 7] [] ⟨[(4, (.ptr 4 0, [])), (7, (.ptr 7 0, [])), (8, (.v (.int .i64 (wr.i64 (b78_ + 1))), []))], [(4, .cells [.int .i64 0, .str (bs []), .int .i64 0, .int .i64 0, .bool false] []), (7, .cells [.int .i64 4, .str (d77_.extract (b78_ : Int).toNat ((wr.i64 (b78_ + 1)) : Int).toNat), .int .i64 0, .int .i64 b78_, .bool false] [])], []⟩ _ (by kernel_rfl) .nil ?_
                  refine Wc.seq ?_
                  refine Wc.region [] [] [4, 5] [4] [] ⟨[(4, (.ptr 4 0, [])), (5, (.v (.int .i64 (wr.i64 (b78_ + 1))), []))], [(4, .cells [.int .i64 4, .str (d77_.extract (b78_ : Int).toNat ((wr.i64 (b78_ + 1)) : Int).toNat), .int .i64 0, .int .i64 b78_, .bool false] [])], []⟩ _ (by kernel_rfl) .nil ?_
                  refine Wc.ret ?_
                  obtain rfl := Option.some.inj h
                  exact ⟨.inl rfl, by kernel_rfl, by kernel_rfl⟩
                · refine Wc.condF h150 (by kernel_rfl) ?_
                  refine Wc.seq ?_
                  obtain ⟨e91_, h151, h⟩ := obind h
                  refine Wc.region [{}, {}, { r := some (.v (.bool e91_) []) }] [] [0, 1, 4, 6, 7, 8, 133] [4, 7] [] ⟨[(0, (.v (.str d77_), [])), (1, (.v (.int .i64 b78_), [])), (4, (.ptr 4 0, [])), (6, (.v (.int .u8 (bt d77_ b78_)), [])), (7, (.ptr 7 0, [])), (8, (.v (.int .i64 (wr.i64 (b78_ + 1))), [])), (133, (.v (.bool e91_), []))], [(4, .cells [.int .i64 0, .str (bs []), .int .i64 0, .int .i64 0, .bool false] []), (7, .cells [.int .i64 6, .str (d77_.extract (b78_ : Int).toNat ((wr.i64 (b78_ + 1)) : Int).toNat), .int .i64 0, .int .i64 b78_, .bool false] [])], []⟩ _ (by kernel_rfl) (.cons (cspec_l05End h151) .nil) ?_
                  rcases oif h with ⟨h152, h⟩ | ⟨h152, h⟩
                  · refine Wc.condT h152 (by kernel_rfl) ?_
                    refine Wc.region [] [] [4, 7, 8] [4, 7] [] ⟨[(4, (.ptr 4 0, [])), (7, (.ptr 7 0, [])), (8, (.v (.int .i64 (wr.i64 (b78_ + 1))), []))], [(4, .cells [.int .i64 0, .str (bs []), .int .i64 0, .int .i64 0, .bool false] []), (7, .cells [.int .i64 5, .str (d77_.extract (b78_ : Int).toNat ((wr.i64 (b78_ + 1)) : Int).toNat), .int .i64 0, .int .i64 b78_, .bool false] [])], []⟩ _ (by kernel_rfl) .nil ?_
                    refine Wc.seq ?_
                    refine Wc.region [] [] [4, 5] [4] [] ⟨[(4, (.ptr 4 0, [])), (5, (.v (.int .i64 (wr.i64 (b78_ + 1))), []))], [(4, .cells [.int .i64 5, .str (d77_.extract (b78_ : Int).toNat ((wr.i64 (b78_ + 1)) : Int).toNat), .int .i64 0, .int .i64 b78_, .bool false] [])], []⟩ _ (by kernel_rfl) .nil ?_
                    refine Wc.ret ?_
                    obtain rfl := Option.some.inj h
                    exact ⟨.inl rfl, by kernel_rfl, by kernel_rfl⟩
                  · refine Wc.condF h152 (by kernel_rfl) ?_
                    refine Wc.seq ?_
                    obtain ⟨e92_, h153, h⟩ := obind h
                    refine Wc.region [{}, { r := some (.v (.bool e92_) []) }] [] [0, 1, 4, 7, 8, 138] [4, 7] [] ⟨[(0, (.v (.str d77_), [])), (1, (.v (.int .i64 b78_), [])), (4, (.ptr 4 0, [])), (7, (.ptr 7 0, [])), (8, (.v (.int .i64 (wr.i64 (b78_ + 1))), [])), (138, (.v (.bool e92_), []))], [(4, .cells [.int .i64 0, .str (bs []), .int .i64 0, .int .i64 0, .bool false] []), (7, .cells [.int .i64 6, .str (d77_.extract (b78_ : Int).toNat ((wr.i64 (b78_ + 1)) : Int).toNat), .int .i64 0, .int .i64 b78_, .bool false] [])], []⟩ _ (by kernel_rfl) (.cons (cspec_SymbolByte h153) .nil) ?_
                    rcases oif h with ⟨h154, h⟩ | ⟨h154, h⟩
                    · refine Wc.condT h154 (by kernel_rfl) ?_
                      refine Wc.seq ?_
                      refine Wc.region [] [] [0, 1, 4, 7, 8, 13] [4, 7] [] ⟨[(0, (.v (.str d77_), [])), (1, (.v (.int .i64 b78_), [])), (4, (.ptr 4 0, [])), (7, (.ptr 7 0, [])), (8, (.v (.int .i64 (wr.i64 (b78_ + 1))), [])), (13, (.v (.int .i64 b78_), []))], [(4, .cells [.int .i64 0, .str (bs []), .int .i64 0, .int .i64 0, .bool false] []), (7, .cells [.int .i64 6, .str (d77_.extract (b78_ : Int).toNat ((wr.i64 (b78_ + 1)) : Int).toNat), .int .i64 0, .int .i64 b78_, .bool false] [])], []⟩ _ (by kernel_rfl) .nil ?_
                      obtain ⟨out5, h155, h⟩ := obind h
                      refine Wc.seqJ (fun st => ∃ (b94_ : Int), out5 = .done b94_ ∧ st = ⟨[(0, (.v (.str d77_), [])), (1, (.v (.int .i64 b78_), [])), (4, (.ptr 4 0, [])), (7, (.ptr 7 0, [])), (8, (.v (.int .i64 (wr.i64 (b78_ + 1))), [])), (13, (.v (.int .i64 b94_), []))], [(4, .cells [.int .i64 0, .str (bs []), .int .i64 0, .int .i64 0, .bool false] []), (7, .cells [.int .i64 6, .str (d77_.extract (b78_ : Int).toNat ((wr.i64 (b78_ + 1)) : Int).toNat), .int .i64 0, .int .i64 b78_, .bool false] [])], []⟩) ?_ ?_
                      · refine Wc.block ?_
                        refine Wc.loop (fun m st => ∃ (b93_ : Int), st = ⟨[(0, (.v (.str d77_), [])), (1, (.v (.int .i64 b78_), [])), (4, (.ptr 4 0, [])), (7, (.ptr 7 0, [])), (8, (.v (.int .i64 (wr.i64 (b78_ + 1))), [])), (13, (.v (.int .i64 b93_), []))], [(4, .cells [.int .i64 0, .str (bs []), .int .i64 0, .int .i64 0, .bool false] []), (7, .cells [.int .i64 6, .str (d77_.extract (b78_ : Int).toNat ((wr.i64 (b78_ + 1)) : Int).toNat), .int .i64 0, .int .i64 b78_, .bool false] [])], []⟩ ∧ pspec_l05Sign_L5 k d77_ m b93_ = some out5) ?_ k ⟨_, rfl, h155⟩
                        rintro m st ⟨b93_, rfl, h155⟩
                        cases m with
                        | zero => exact (onone h155).elim
                        | succ m =>
                          refine Wc.seq ?_
                          refine Wc.seq ?_
                          rcases oif h155 with ⟨h156, h155⟩ | ⟨h156, h155⟩
                          · obtain ⟨h157, h155⟩ := oguard h155
                            obtain ⟨e95_, h158, h155⟩ := obind h155
                            refine Wc.region [{}, {}, {}, {}, { re := some (.bool true) }, {}, {}, {}, { r := some (.v (.bool e95_) []) }] [] [0, 1, 4, 7, 8, 13, 151] [4, 7] [] ⟨[(0, (.v (.str d77_), [])), (1, (.v (.int .i64 b78_), [])), (4, (.ptr 4 0, [])), (7, (.ptr 7 0, [])), (8, (.v (.int .i64 (wr.i64 (b78_ + 1))), [])), (13, (.v (.int .i64 b93_), [])), (151, (.v (.bool e95_), []))], [(4, .cells [.int .i64 0, .str (bs []), .int .i64 0, .int .i64 0, .bool false] []), (7, .cells [.int .i64 6, .str (d77_.extract (b78_ : Int).toNat ((wr.i64 (b78_ + 1)) : Int).toNat), .int .i64 0, .int .i64 b78_, .bool false] [])], []⟩ _ (by kernel_rfl) (.cons (congrArg AV.bool h156) (.cons h157 (.cons (cspec_SymbolByte h158) .nil))) ?_
                            rcases oif h155 with ⟨h159, h155⟩ | ⟨h159, h155⟩
                            · refine Wc.condT h159 (by kernel_rfl) ?_
                              refine Wc.fix (st' := ⟨[(0, (.v (.str d77_), [])), (1, (.v (.int .i64 b78_), [])), (4, (.ptr 4 0, [])), (7, (.ptr 7 0, [])), (8, (.v (.int .i64 (wr.i64 (b78_ + 1))), [])), (13, (.v (.int .i64 b93_), []))], [(4, .cells [.int .i64 0, .str (bs []), .int .i64 0, .int .i64 0, .bool false] []), (7, .cells [.int .i64 6, .str (d77_.extract (b78_ : Int).toNat ((wr.i64 (b78_ + 1)) : Int).toNat), .int .i64 0, .int .i64 b78_, .bool false] [])], []⟩) [] [0, 1, 4, 7, 8, 13] [4, 7] [] (by kernel_rfl) ?_
                              refine Wc.skip ?_
                              refine Wc.block ?_
                              refine Wc.region [] [] [0, 1, 4, 7, 8, 13] [4, 7] [] ⟨[(0, (.v (.str d77_), [])), (1, (.v (.int .i64 b78_), [])), (4, (.ptr 4 0, [])), (7, (.ptr 7 0, [])), (8, (.v (.int .i64 (wr.i64 (b78_ + 1))), [])), (13, (.v (.int .i64 (wr.i64 (b93_ + 1))), []))], [(4, .cells [.int .i64 0, .str (bs []), .int .i64 0, .int .i64 0, .bool false] []), (7, .cells [.int .i64 6, .str (d77_.extract (b78_ : Int).toNat ((wr.i64 (b78_ + 1)) : Int).toNat), .int .i64 0, .int .i64 b78_, .bool false] [])], []⟩ _ (by kernel_rfl) .nil ?_
                              exact ⟨_, Nat.lt_succ_self _, _, rfl, h155⟩
                            · refine Wc.condF h159 (by kernel_rfl) ?_
                              refine Wc.fix (st' := ⟨[(0, (.v (.str d77_), [])), (1, (.v (.int .i64 b78_), [])), (4, (.ptr 4 0, [])), (7, (.ptr 7 0, [])), (8, (.v (.int .i64 (wr.i64 (b78_ + 1))), [])), (13, (.v (.int .i64 b93_), []))], [(4, .cells [.int .i64 0, .str (bs []), .int .i64 0, .int .i64 0, .bool false] []), (7, .cells [.int .i64 6, .str (d77_.extract (b78_ : Int).toNat ((wr.i64 (b78_ + 1)) : Int).toNat), .int .i64 0, .int .i64 b78_, .bool false] [])], []⟩) [] [0, 1, 4, 7, 8, 13] [4, 7] [] (by kernel_rfl) ?_
                              refine Wc.exit ?_
                              obtain rfl := Option.some.inj h155
                              exact ⟨_, rfl, rfl⟩
                          · refine Wc.region [{}, {}, {}, {}, { re := some (.bool false) }] [] [0, 1, 4, 7, 8, 13, 151] [4, 7] [] ⟨[(0, (.v (.str d77_), [])), (1, (.v (.int .i64 b78_), [])), (4, (.ptr 4 0, [])), (7, (.ptr 7 0, [])), (8, (.v (.int .i64 (wr.i64 (b78_ + 1))), [])), (13, (.v (.int .i64 b93_), [])), (151, (.v (.bool false), []))], [(4, .cells [.int .i64 0, .str (bs []), .int .i64 0, .int .i64 0, .bool false] []), (7, .cells [.int .i64 6, .str (d77_.extract (b78_ : Int).toNat ((wr.i64 (b78_ + 1)) : Int).toNat), .int .i64 0, .int .i64 b78_, .bool false] [])], []⟩ _ (by kernel_rfl) (.cons (congrArg AV.bool h156) .nil) ?_
                            refine Wc.condF rfl (by kernel_rfl) ?_
                            refine Wc.fix (st' := ⟨[(0, (.v (.str d77_), [])), (1, (.v (.int .i64 b78_), [])), (4, (.ptr 4 0, [])), (7, (.ptr 7 0, [])), (8, (.v (.int .i64 (wr.i64 (b78_ + 1))), [])), (13, (.v (.int .i64 b93_), []))], [(4, .cells [.int .i64 0, .str (bs []), .int .i64 0, .int .i64 0, .bool false] []), (7, .cells [.int .i64 6, .str (d77_.extract (b78_ : Int).toNat ((wr.i64 (b78_ + 1)) : Int).toNat), .int .i64 0, .int .i64 b78_, .bool false] [])], []⟩) [] [0, 1, 4, 7, 8, 13] [4, 7] [] (by kernel_rfl) ?_
                            refine Wc.exit ?_
                            obtain rfl := Option.some.inj h155
                            exact ⟨_, rfl, rfl⟩
                      · rintro st ⟨b94_, rfl, rfl⟩
                        refine Wc.seq ?_
                        refine Wc.region [] [] [0, 1, 4, 7, 8, 13, 157] [4, 7] [] ⟨[(0, (.v (.str d77_), [])), (1, (.v (.int .i64 b78_), [])), (4, (.ptr 4 0, [])), (7, (.ptr 7 0, [])), (8, (.v (.int .i64 (wr.i64 (b78_ + 1))), [])), (13, (.v (.int .i64 b94_), [])), (157, (.v (.bool (decide ((wr.i64 (b94_ - b78_)) ≤ 20))), []))], [(4, .cells [.int .i64 0, .str (bs []), .int .i64 0, .int .i64 0, .bool false] []), (7, .cells [.int .i64 6, .str (d77_.extract (b78_ : Int).toNat ((wr.i64 (b78_ + 1)) : Int).toNat), .int .i64 0, .int .i64 b78_, .bool false] [])], []⟩ _ (by kernel_rfl) .nil ?_
                        rcases oif h with ⟨h160, h⟩ | ⟨h160, h⟩
                        · refine Wc.condT h160 (by kernel_rfl) ?_
                          refine Wc.seq ?_
                          refine Wc.region [] [] [0, 1, 4, 7, 13] [4, 7] [] ⟨[(0, (.v (.str d77_), [])), (1, (.v (.int .i64 b78_), [])), (4, (.ptr 4 0, [])), (7, (.ptr 7 0, [])), (13, (.v (.int .i64 b94_), []))], [(4, .cells [.int .i64 0, .str (bs []), .int .i64 0, .int .i64 0, .bool false] []), (7, .cells [.int .i64 1, .str (d77_.extract (b78_ : Int).toNat ((wr.i64 (b78_ + 1)) : Int).toNat), .int .i64 0, .int .i64 b78_, .bool false] [])], []⟩ _ (by kernel_rfl) .nil ?_
                          refine Wc.seq ?_
                          obtain ⟨h161, h⟩ := oguard h
                          refine Wc.region [] [] [4, 7, 13] [4, 7] [] ⟨[(4, (.ptr 4 0, [])), (7, (.ptr 7 0, [])), (13, (.v (.int .i64 b94_), []))], [(4, .cells [.int .i64 0, .str (bs []), .int .i64 0, .int .i64 0, .bool false] []), (7, .cells [.int .i64 1, .str (d77_.extract (b78_ : Int).toNat (b94_ : Int).toNat), .int .i64 0, .int .i64 b78_, .bool false] [])], []⟩ _ (by kernel_rfl) (.cons h161 .nil) ?_
                          refine Wc.region [] [] [4, 7, 8] [4, 7] [] ⟨[(4, (.ptr 4 0, [])), (7, (.ptr 7 0, [])), (8, (.v (.int .i64 b94_), []))], [(4, .cells [.int .i64 0, .str (bs []), .int .i64 0, .int .i64 0, .bool false] []), (7, .cells [.int .i64 1, .str (d77_.extract (b78_ : Int).toNat (b94_ : Int).toNat), .int .i64 0, .int .i64 b78_, .bool false] [])], []⟩ _ (by kernel_rfl) .nil ?_
                          refine Wc.seq ?_
                          refine Wc.region [] [] [4, 5] [4] [] ⟨[(4, (.ptr 4 0, [])), (5, (.v (.int .i64 b94_), []))], [(4, .cells [.int .i64 1, .str (d77_.extract (b78_ : Int).toNat (b94_ : Int).toNat), .int .i64 0, .int .i64 b78_, .bool false] [])], []⟩ _ (by kernel_rfl) .nil ?_
                          refine Wc.ret ?_
                          obtain rfl := Option.some.inj h
                          exact ⟨.inl rfl, by kernel_rfl, by kernel_rfl⟩
                        · refine Wc.condF h160 (by kernel_rfl) ?_
                          refine Wc.fix (st' := ⟨[(4, (.ptr 4 0, [])), (7, (.ptr 7 0, [])), (8, (.v (.int .i64 (wr.i64 (b78_ + 1))), []))], [(4, .cells [.int .i64 0, .str (bs []), .int .i64 0, .int .i64 0, .bool false] []), (7, .cells [.int .i64 6, .str (d77_.extract (b78_ : Int).toNat ((wr.i64 (b78_ + 1)) : Int).toNat), .int .i64 0, .int .i64 b78_, .bool false] [])], []⟩) [] [4, 7, 8] [4, 7] [] (by kernel_rfl) ?_
                          refine Wc.skip ?_
                          refine Wc.seq ?_
                          refine Wc.region [] [] [4, 5] [4] [] ⟨[(4, (.ptr 4 0, [])), (5, (.v (.int .i64 (wr.i64 (b78_ + 1))), []))], [(4, .cells [.int .i64 6, .str (d77_.extract (b78_ : Int).toNat ((wr.i64 (b78_ + 1)) : Int).toNat), .int .i64 0, .int .i64 b78_, .bool false] [])], []⟩ _ (by kernel_rfl) .nil ?_
                          refine Wc.ret ?_
                          obtain rfl := Option.some.inj h
                          exact ⟨.inl rfl, by kernel_rfl, by kernel_rfl⟩
                    · refine Wc.condF h154 (by kernel_rfl) ?_
                      refine Wc.fix (st' := ⟨[(4, (.ptr 4 0, [])), (7, (.ptr 7 0, [])), (8, (.v (.int .i64 (wr.i64 (b78_ + 1))), []))], [(4, .cells [.int .i64 0, .str (bs []), .int .i64 0, .int .i64 0, .bool false] []), (7, .cells [.int .i64 6, .str (d77_.extract (b78_ : Int).toNat ((wr.i64 (b78_ + 1)) : Int).toNat), .int .i64 0, .int .i64 b78_, .bool false] [])], []⟩) [] [4, 7, 8] [4, 7] [] (by kernel_rfl) ?_
                      refine Wc.skip ?_
                      refine Wc.seq ?_
                      refine Wc.region [] [] [4, 5] [4] [] ⟨[(4, (.ptr 4 0, [])), (5, (.v (.int .i64 (wr.i64 (b78_ + 1))), []))], [(4, .cells [.int .i64 6, .str (d77_.extract (b78_ : Int).toNat ((wr.i64 (b78_ + 1)) : Int).toNat), .int .i64 0, .int .i64 b78_, .bool false] [])], []⟩ _ (by kernel_rfl) .nil ?_
                      refine Wc.ret ?_
                      obtain rfl := Option.some.inj h
                      exact ⟨.inl rfl, by kernel_rfl, by kernel_rfl⟩

def pspec_SignsOf_L2 (k : Nat) (d106_ : ByteArray) : Nat → Int → Option (Out ((List GSign) × Bool) Int)
  | 0, _ => none
  | m + 1, b111_ =>
    if (decide (b111_ < (d106_.size : Int))) = true then
      if 0 ≤ b111_ ∧ (b111_).toNat < d106_.size then
        if ((bt d106_ b111_) != 10) = true then
          pspec_SignsOf_L2 k d106_ m (wr.i64 (b111_ + 1))
        else
          some (.done b111_)
      else none
    else
      some (.done b111_)
def pspec_SignsOf_L1 (k : Nat) (d106_ : ByteArray) : Nat → (List GSign) → Int → Option (Out ((List GSign) × Bool) (List GSign))
  | 0, _, _ => none
  | m + 1, g107_, b108_ =>
    if (decide (b108_ < (d106_.size : Int))) = true then
      if 0 ≤ b108_ ∧ (b108_).toNat < d106_.size then
        (pspec_l05Blank k (bt d106_ b108_)).bind fun e110_ =>
        if e110_ = true then
          pspec_SignsOf_L1 k d106_ m g107_ (wr.i64 (b108_ + 1))
        else
          if 0 ≤ b108_ ∧ (b108_).toNat < d106_.size then
            if ((bt d106_ b108_) == 37) = true then
              (pspec_SignsOf_L2 k d106_ k b108_).bind fun out2 => match out2 with
              | .ret r => some (.ret r)
              | .done b112_ =>
                pspec_SignsOf_L1 k d106_ m g107_ b112_
            else
              (pspec_l05Sign k d106_ b108_).bind fun i113_ =>
              if (decide (i113_.2 < (d106_.size : Int))) = true then
                if 0 ≤ i113_.2 ∧ (i113_.2).toNat < d106_.size then
                  if g107_.length + [GSign.mk i113_.1.gKind i113_.1.gText i113_.1.gNum i113_.1.gAt ((bt d106_ i113_.2) == 40)].length ≤ 1073741824 then
                    pspec_SignsOf_L1 k d106_ m (g107_ ++ [GSign.mk i113_.1.gKind i113_.1.gText i113_.1.gNum i113_.1.gAt ((bt d106_ i113_.2) == 40)]) i113_.2
                  else none
                else none
              else
                if g107_.length + [GSign.mk i113_.1.gKind i113_.1.gText i113_.1.gNum i113_.1.gAt false].length ≤ 1073741824 then
                  pspec_SignsOf_L1 k d106_ m (g107_ ++ [GSign.mk i113_.1.gKind i113_.1.gText i113_.1.gNum i113_.1.gAt false]) i113_.2
                else none
          else none
      else none
    else
      some (.done g107_)
/-- spec.SignsOf -/
def pspec_SignsOf (k : Nat) (d106_ : ByteArray) : Option ((List GSign) × Bool) :=
  if (decide ((d106_.size : Int) > 3000)) = true then
    some ([], false)
  else
    (pspec_SignsOf_L1 k d106_ k [] 0).bind fun out1 => match out1 with
    | .ret r => some r
    | .done g109_ =>
      some (g109_, true)
set_option maxHeartbeats 4000000 in
theorem cspec_SignsOf {k : Nat} {d106_ : ByteArray} {r : (List GSign) × Bool} (h : pspec_SignsOf k d106_ = some r) : FnO Tryd.prog 31 [.v (.str d106_) []] (.v (.tup [.sl (List.map GSign.c r.1), .bool r.2]) [(0, .app 54)]) [] := by
  refine FnO.of Tryd.func31 (rfl : Tryd.f31.body = some _) (Nat.le_of_ble_eq_true (by kernel_rfl)) (Nat.le_of_ble_eq_true (by kernel_rfl)) ?_
  intro w0 X0 Fin pv0 pb gt
  unfold pspec_SignsOf at h
  refine Wc.seq ?_
  refine Wc.region [] [] [0] [] [] ⟨[(0, (.v (.str d106_), []))], [], []⟩ _ (by kernel_rfl) .nil ?_
  refine Wc.seq ?_
  refine Wc.region [{ c := some (List.map GSign.c []) }, { tk := [8] }] [] [0, 4] [] [] ⟨[(0, (.v (.str d106_), [])), (4, (.v (.sl (List.map GSign.c [])), [(0, .app 54)]))], [], []⟩ _ (by kernel_rfl) (.cons (cl_nil GSign.c) .nil) ?_
  refine Wc.seq ?_
  refine Wc.seq ?_
  refine Wc.region [] [] [0, 4, 11] [] [] ⟨[(0, (.v (.str d106_), [])), (4, (.v (.sl (List.map GSign.c [])), [(0, .app 54)])), (11, (.v (.bool (decide ((d106_.size : Int) > 3000))), []))], [], []⟩ _ (by kernel_rfl) .nil ?_
  rcases oif h with ⟨h188, h⟩ | ⟨h188, h⟩
  · refine Wc.condT h188 (by kernel_rfl) ?_
    refine Wc.seq ?_
    refine Wc.region [{ tk := [4] }, { tk := [12] }] [] [2, 3] [] [] ⟨[(2, (.v (.sl (List.map GSign.c [])), [(0, .app 54)])), (3, (.v (.bool false), []))], [], []⟩ _ (by kernel_rfl) .nil ?_
    refine Wc.ret ?_
    obtain rfl := Option.some.inj h
    exact ⟨.inl rfl, by kernel_rfl, by kernel_rfl⟩
  · refine Wc.condF h188 (by kernel_rfl) ?_
    refine Wc.fix (st' := ⟨[(0, (.v (.str d106_), [])), (4, (.v (.sl (List.map GSign.c [])), [(0, .app 54)]))], [], []⟩) [] [0, 4] [] [] (by kernel_rfl) ?_
    refine Wc.skip ?_
    refine Wc.seq ?_
    refine Wc.region [] [] [0, 4, 5] [] [] ⟨[(0, (.v (.str d106_), [])), (4, (.v (.sl (List.map GSign.c [])), [(0, .app 54)])), (5, (.v (.int .i64 0), []))], [], []⟩ _ (by kernel_rfl) .nil ?_
    obtain ⟨out1, h189, h⟩ := obind h
    refine Wc.seqJ (fun st => ∃ (g109_ : List GSign), out1 = .done g109_ ∧ st = ⟨[(4, (.v (.sl (List.map GSign.c g109_)), [(0, .app 54)]))], [], []⟩) ?_ ?_
    · refine Wc.block ?_
      refine Wc.loop (fun m st => ∃ (g107_ : List GSign) (b108_ : Int), st = ⟨[(0, (.v (.str d106_), [])), (4, (.v (.sl (List.map GSign.c g107_)), [(0, .app 54)])), (5, (.v (.int .i64 b108_), []))], [], []⟩ ∧ pspec_SignsOf_L1 k d106_ m g107_ b108_ = some out1) ?_ k ⟨_, _, rfl, h189⟩
      rintro m st ⟨g107_, b108_, rfl, h189⟩
      cases m with
      | zero => exact (onone h189).elim
      | succ m =>
        refine Wc.seq ?_
        refine Wc.seq ?_
        refine Wc.region [] [] [0, 4, 5, 16] [] [] ⟨[(0, (.v (.str d106_), [])), (4, (.v (.sl (List.map GSign.c g107_)), [(0, .app 54)])), (5, (.v (.int .i64 b108_), [])), (16, (.v (.bool (decide (b108_ < (d106_.size : Int)))), []))], [], []⟩ _ (by kernel_rfl) .nil ?_
        rcases oif h189 with ⟨h190, h189⟩ | ⟨h190, h189⟩
        · refine Wc.condT h190 (by kernel_rfl) ?_
          refine Wc.fix (st' := ⟨[(0, (.v (.str d106_), [])), (4, (.v (.sl (List.map GSign.c g107_)), [(0, .app 54)])), (5, (.v (.int .i64 b108_), []))], [], []⟩) [] [0, 4, 5] [] [] (by kernel_rfl) ?_
          refine Wc.skip ?_
          refine Wc.block ?_
          refine Wc.seq ?_
          refine Wc.seq ?_
          obtain ⟨h191, h189⟩ := oguard h189
          obtain ⟨e110_, h192, h189⟩ := obind h189
          refine Wc.region [{}, {}, {}, { r := some (.v (.bool e110_) []) }] [] [0, 4, 5, 20] [] [] ⟨[(0, (.v (.str d106_), [])), (4, (.v (.sl (List.map GSign.c g107_)), [(0, .app 54)])), (5, (.v (.int .i64 b108_), [])), (20, (.v (.bool e110_), []))], [], []⟩ _ (by kernel_rfl) (.cons h191 (.cons (cspec_l05Blank h192) .nil)) ?_
          rcases oif h189 with ⟨h193, h189⟩ | ⟨h193, h189⟩
          · refine Wc.condT h193 (by kernel_rfl) ?_
            refine Wc.seq ?_
            refine Wc.region [] [] [0, 4, 5] [] [] ⟨[(0, (.v (.str d106_), [])), (4, (.v (.sl (List.map GSign.c g107_)), [(0, .app 54)])), (5, (.v (.int .i64 (wr.i64 (b108_ + 1))), []))], [], []⟩ _ (by kernel_rfl) .nil ?_
            refine Wc.exit ?_
            exact ⟨_, Nat.lt_succ_self _, _, _, rfl, h189⟩
          · refine Wc.condF h193 (by kernel_rfl) ?_
            refine Wc.fix (st' := ⟨[(0, (.v (.str d106_), [])), (4, (.v (.sl (List.map GSign.c g107_)), [(0, .app 54)])), (5, (.v (.int .i64 b108_), []))], [], []⟩) [] [0, 4, 5] [] [] (by kernel_rfl) ?_
            refine Wc.skip ?_
            refine Wc.seq ?_
            refine Wc.seq ?_
            obtain ⟨h194, h189⟩ := oguard h189
            refine Wc.region [] [] [0, 4, 5, 26] [] [] ⟨[(0, (.v (.str d106_), [])), (4, (.v (.sl (List.map GSign.c g107_)), [(0, .app 54)])), (5, (.v (.int .i64 b108_), [])), (26, (.v (.bool ((bt d106_ b108_) == 37)), []))], [], []⟩ _ (by kernel_rfl) (.cons h194 .nil) ?_
            rcases oif h189 with ⟨h195, h189⟩ | ⟨h195, h189⟩
            · refine Wc.condT h195 (by kernel_rfl) ?_
              obtain ⟨out2, h196, h189⟩ := obind h189
              refine Wc.seqJ (fun st => ∃ (b112_ : Int), out2 = .done b112_ ∧ st = ⟨[(0, (.v (.str d106_), [])), (4, (.v (.sl (List.map GSign.c g107_)), [(0, .app 54)])), (5, (.v (.int .i64 b112_), []))], [], []⟩) ?_ ?_
              · refine Wc.block ?_
                refine Wc.fix (st' := ⟨[(0, (.v (.str d106_), [])), (4, (.v (.sl (List.map GSign.c g107_)), [(0, .app 54)])), (5, (.v (.int .i64 b108_), []))], [], []⟩) [] [0, 4, 5] [] [] (by kernel_rfl) ?_
                refine Wc.loop (fun m st => ∃ (b111_ : Int), st = ⟨[(0, (.v (.str d106_), [])), (4, (.v (.sl (List.map GSign.c g107_)), [(0, .app 54)])), (5, (.v (.int .i64 b111_), []))], [], []⟩ ∧ pspec_SignsOf_L2 k d106_ m b111_ = some out2) ?_ k ⟨_, rfl, h196⟩
                rintro m st ⟨b111_, rfl, h196⟩
                cases m with
                | zero => exact (onone h196).elim
                | succ m =>
                  refine Wc.seq ?_
                  refine Wc.seq ?_
                  rcases oif h196 with ⟨h197, h196⟩ | ⟨h197, h196⟩
                  · obtain ⟨h198, h196⟩ := oguard h196
                    refine Wc.region [{}, {}, {}, {}, { re := some (.bool true) }] [] [0, 4, 5, 36] [] [] ⟨[(0, (.v (.str d106_), [])), (4, (.v (.sl (List.map GSign.c g107_)), [(0, .app 54)])), (5, (.v (.int .i64 b111_), [])), (36, (.v (.bool ((bt d106_ b111_) != 10)), []))], [], []⟩ _ (by kernel_rfl) (.cons (congrArg AV.bool h197) (.cons h198 .nil)) ?_
                    rcases oif h196 with ⟨h199, h196⟩ | ⟨h199, h196⟩
                    · refine Wc.condT h199 (by kernel_rfl) ?_
                      refine Wc.fix (st' := ⟨[(0, (.v (.str d106_), [])), (4, (.v (.sl (List.map GSign.c g107_)), [(0, .app 54)])), (5, (.v (.int .i64 b111_), []))], [], []⟩) [] [0, 4, 5] [] [] (by kernel_rfl) ?_
                      refine Wc.skip ?_
                      refine Wc.block ?_
                      refine Wc.region [] [] [0, 4, 5] [] [] ⟨[(0, (.v (.str d106_), [])), (4, (.v (.sl (List.map GSign.c g107_)), [(0, .app 54)])), (5, (.v (.int .i64 (wr.i64 (b111_ + 1))), []))], [], []⟩ _ (by kernel_rfl) .nil ?_
                      exact ⟨_, Nat.lt_succ_self _, _, rfl, h196⟩
                    · refine Wc.condF h199 (by kernel_rfl) ?_
                      refine Wc.fix (st' := ⟨[(0, (.v (.str d106_), [])), (4, (.v (.sl (List.map GSign.c g107_)), [(0, .app 54)])), (5, (.v (.int .i64 b111_), []))], [], []⟩) [] [0, 4, 5] [] [] (by kernel_rfl) ?_
                      refine Wc.exit ?_
                      obtain rfl := Option.some.inj h196
                      exact ⟨_, rfl, rfl⟩
                  · refine Wc.region [{}, {}, {}, {}, { re := some (.bool false) }] [] [0, 4, 5, 36] [] [] ⟨[(0, (.v (.str d106_), [])), (4, (.v (.sl (List.map GSign.c g107_)), [(0, .app 54)])), (5, (.v (.int .i64 b111_), [])), (36, (.v (.bool false), []))], [], []⟩ _ (by kernel_rfl) (.cons (congrArg AV.bool h197) .nil) ?_
                    refine Wc.condF rfl (by kernel_rfl) ?_
                    refine Wc.fix (st' := ⟨[(0, (.v (.str d106_), [])), (4, (.v (.sl (List.map GSign.c g107_)), [(0, .app 54)])), (5, (.v (.int .i64 b111_), []))], [], []⟩) [] [0, 4, 5] [] [] (by kernel_rfl) ?_
                    refine Wc.exit ?_
                    obtain rfl := Option.some.inj h196
                    exact ⟨_, rfl, rfl⟩
              · rintro st ⟨b112_, rfl, rfl⟩
                refine Wc.exit ?_
                exact ⟨_, Nat.lt_succ_self _, _, _, rfl, h189⟩
            · refine Wc.condF h195 (by kernel_rfl) ?_
              refine Wc.fix (st' := ⟨[(0, (.v (.str d106_), [])), (4, (.v (.sl (List.map GSign.c g107_)), [(0, .app 54)])), (5, (.v (.int .i64 b108_), []))], [], []⟩) [] [0, 4, 5] [] [] (by kernel_rfl) ?_
              refine Wc.skip ?_
              refine Wc.seq ?_
              obtain ⟨i113_, h200, h189⟩ := obind h189
              refine Wc.region [{}, {}, { r := some (.v (.tup [.agg [.int .i64 i113_.1.gKind, .str i113_.1.gText, .int .i64 i113_.1.gNum, .int .i64 i113_.1.gAt, .bool i113_.1.gNear], .int .i64 i113_.2]) []) }] [] [0, 4, 6, 7] [6] [] ⟨[(0, (.v (.str d106_), [])), (4, (.v (.sl (List.map GSign.c g107_)), [(0, .app 54)])), (6, (.ptr 6 0, [])), (7, (.v (.int .i64 i113_.2), []))], [(6, .cells [.int .i64 i113_.1.gKind, .str i113_.1.gText, .int .i64 i113_.1.gNum, .int .i64 i113_.1.gAt, .bool i113_.1.gNear] [])], []⟩ _ (by kernel_rfl) (.cons (cspec_l05Sign h200) .nil) ?_
              refine Wc.seq ?_
              rcases oif h189 with ⟨h201, h189⟩ | ⟨h201, h189⟩
              · obtain ⟨h202, h189⟩ := oguard h189
                refine Wc.region [{}, {}, {}, {}, { re := some (.bool true) }] [] [0, 4, 6, 7] [6] [] ⟨[(0, (.v (.str d106_), [])), (4, (.v (.sl (List.map GSign.c g107_)), [(0, .app 54)])), (6, (.ptr 6 0, [])), (7, (.v (.int .i64 i113_.2), []))], [(6, .cells [.int .i64 i113_.1.gKind, .str i113_.1.gText, .int .i64 i113_.1.gNum, .int .i64 i113_.1.gAt, .bool ((bt d106_ i113_.2) == 40)] [])], []⟩ _ (by kernel_rfl) (.cons (congrArg AV.bool h201) (.cons h202 .nil)) ?_
                refine Wc.seq ?_
                obtain ⟨h203, h189⟩ := oguard h189
                refine Wc.region [{ tk := [4] }, {}, { c := some (List.map GSign.c [GSign.mk i113_.1.gKind i113_.1.gText i113_.1.gNum i113_.1.gAt ((bt d106_ i113_.2) == 40)]) }, { c := some (List.map GSign.c (g107_ ++ [GSign.mk i113_.1.gKind i113_.1.gText i113_.1.gNum i113_.1.gAt ((bt d106_ i113_.2) == 40)])), tk := [56] }, { tk := [59] }] [] [0, 4, 7] [] [] ⟨[(0, (.v (.str d106_), [])), (4, (.v (.sl (List.map GSign.c (g107_ ++ [GSign.mk i113_.1.gKind i113_.1.gText i113_.1.gNum i113_.1.gAt ((bt d106_ i113_.2) == 40)]))), [(0, .app 54)])), (7, (.v (.int .i64 i113_.2), []))], [], []⟩ _ (by kernel_rfl) (.cons (cl_cons (c := GSign.c) (x := GSign.mk i113_.1.gKind i113_.1.gText i113_.1.gNum i113_.1.gAt ((bt d106_ i113_.2) == 40)) (GSign.c_eq (GSign.mk i113_.1.gKind i113_.1.gText i113_.1.gNum i113_.1.gAt ((bt d106_ i113_.2) == 40))) (cl_nil GSign.c)) (.cons (app_re2 GSign.c g107_ [GSign.mk i113_.1.gKind i113_.1.gText i113_.1.gNum i113_.1.gAt ((bt d106_ i113_.2) == 40)]) (.cons (app_leaf (c := GSign.c) (ys := [GSign.mk i113_.1.gKind i113_.1.gText i113_.1.gNum i113_.1.gAt ((bt d106_ i113_.2) == 40)]) GSign.c_leaf) (.cons (app_obl2 (c := GSign.c) (xs := g107_) (ys := [GSign.mk i113_.1.gKind i113_.1.gText i113_.1.gNum i113_.1.gAt ((bt d106_ i113_.2) == 40)]) GSign.c_len h203) .nil)))) ?_
                refine Wc.region [] [] [0, 4, 5] [] [] ⟨[(0, (.v (.str d106_), [])), (4, (.v (.sl (List.map GSign.c (g107_ ++ [GSign.mk i113_.1.gKind i113_.1.gText i113_.1.gNum i113_.1.gAt ((bt d106_ i113_.2) == 40)]))), [(0, .app 54)])), (5, (.v (.int .i64 i113_.2), []))], [], []⟩ _ (by kernel_rfl) .nil ?_
                exact ⟨_, Nat.lt_succ_self _, _, _, rfl, h189⟩
              · refine Wc.region [{}, {}, {}, {}, { re := some (.bool false) }] [] [0, 4, 6, 7] [6] [] ⟨[(0, (.v (.str d106_), [])), (4, (.v (.sl (List.map GSign.c g107_)), [(0, .app 54)])), (6, (.ptr 6 0, [])), (7, (.v (.int .i64 i113_.2), []))], [(6, .cells [.int .i64 i113_.1.gKind, .str i113_.1.gText, .int .i64 i113_.1.gNum, .int .i64 i113_.1.gAt, .bool false] [])], []⟩ _ (by kernel_rfl) (.cons (congrArg AV.bool h201) .nil) ?_
                refine Wc.seq ?_
                obtain ⟨h204, h189⟩ := oguard h189
                refine Wc.region [{ tk := [4] }, {}, { c := some (List.map GSign.c [GSign.mk i113_.1.gKind i113_.1.gText i113_.1.gNum i113_.1.gAt false]) }, { c := some (List.map GSign.c (g107_ ++ [GSign.mk i113_.1.gKind i113_.1.gText i113_.1.gNum i113_.1.gAt false])), tk := [56] }, { tk := [59] }] [] [0, 4, 7] [] [] ⟨[(0, (.v (.str d106_), [])), (4, (.v (.sl (List.map GSign.c (g107_ ++ [GSign.mk i113_.1.gKind i113_.1.gText i113_.1.gNum i113_.1.gAt false]))), [(0, .app 54)])), (7, (.v (.int .i64 i113_.2), []))], [], []⟩ _ (by kernel_rfl) (.cons (cl_cons (c := GSign.c) (x := GSign.mk i113_.1.gKind i113_.1.gText i113_.1.gNum i113_.1.gAt false) (GSign.c_eq (GSign.mk i113_.1.gKind i113_.1.gText i113_.1.gNum i113_.1.gAt false)) (cl_nil GSign.c)) (.cons (app_re2 GSign.c g107_ [GSign.mk i113_.1.gKind i113_.1.gText i113_.1.gNum i113_.1.gAt false]) (.cons (app_leaf (c := GSign.c) (ys := [GSign.mk i113_.1.gKind i113_.1.gText i113_.1.gNum i113_.1.gAt false]) GSign.c_leaf) (.cons (app_obl2 (c := GSign.c) (xs := g107_) (ys := [GSign.mk i113_.1.gKind i113_.1.gText i113_.1.gNum i113_.1.gAt false]) GSign.c_len h204) .nil)))) ?_
                refine Wc.region [] [] [0, 4, 5] [] [] ⟨[(0, (.v (.str d106_), [])), (4, (.v (.sl (List.map GSign.c (g107_ ++ [GSign.mk i113_.1.gKind i113_.1.gText i113_.1.gNum i113_.1.gAt false]))), [(0, .app 54)])), (5, (.v (.int .i64 i113_.2), []))], [], []⟩ _ (by kernel_rfl) .nil ?_
                exact ⟨_, Nat.lt_succ_self _, _, _, rfl, h189⟩
        · refine Wc.condF h190 (by kernel_rfl) ?_
          refine Wc.fix (st' := ⟨[(4, (.v (.sl (List.map GSign.c g107_)), [(0, .app 54)]))], [], []⟩) [] [4] [] [] (by kernel_rfl) ?_
          refine Wc.exit ?_
          obtain rfl := Option.some.inj h189
          exact ⟨_, rfl, rfl⟩
    · rintro st ⟨g109_, rfl, rfl⟩
      refine Wc.seq ?_
      refine Wc.region [{ tk := [4] }, { tk := [61] }] [] [2, 3] [] [] ⟨[(2, (.v (.sl (List.map GSign.c g109_)), [(0, .app 54)])), (3, (.v (.bool true), []))], [], []⟩ _ (by kernel_rfl) .nil ?_
      refine Wc.ret ?_
      obtain rfl := Option.some.inj h
      exact ⟨.inl rfl, by kernel_rfl, by kernel_rfl⟩

/-- spec.AtomText -/
def pspec_AtomText (k : Nat) (d114_ : ByteArray) : Option ByteArray :=
  (pspec_SignsOf k d114_).bind fun j115_ =>
  if ((j115_.1.length : Int) == 1) = true then
    (at' j115_.1 0).bind fun l116_ =>
    if (l116_.gKind == 1) = true then
      (at' j115_.1 0).bind fun l117_ =>
      if (sEq l117_.gText d114_) = true then
        some d114_
      else
        if sumOk (bs [39]) d114_ then
          if sumOk ((bs [39]) ++ d114_) (bs [39]) then
            some (((bs [39]) ++ d114_) ++ (bs [39]))
          else none
        else none
    else
      if sumOk (bs [39]) d114_ then
        if sumOk ((bs [39]) ++ d114_) (bs [39]) then
          some (((bs [39]) ++ d114_) ++ (bs [39]))
        else none
      else none
  else
    if sumOk (bs [39]) d114_ then
      if sumOk ((bs [39]) ++ d114_) (bs [39]) then
        some (((bs [39]) ++ d114_) ++ (bs [39]))
      else none
    else none
theorem cspec_AtomText {k : Nat} {d114_ : ByteArray} {r : ByteArray} (h : pspec_AtomText k d114_ = some r) : FnO Tryd.prog 20 [.v (.str d114_) []] (.v (.str r) []) [] := by
  refine FnO.of Tryd.func20 (rfl : Tryd.f20.body = some _) (Nat.le_of_ble_eq_true (by kernel_rfl)) (Nat.le_of_ble_eq_true (by kernel_rfl)) ?_
  intro w0 X0 Fin pv0 pb gt
  unfold pspec_AtomText at h
  refine Wc.seq ?_
  refine Wc.region [] [] [0] [] [] ⟨[(0, (.v (.str d114_), []))], [], []⟩ _ (by kernel_rfl) .nil ?_
  refine Wc.seq ?_
  obtain ⟨j115_, h205, h⟩ := obind h
  refine Wc.region [{}, { r := some (.v (.tup [.sl (List.map GSign.c j115_.1), .bool j115_.2]) [(0, .app 54)]) }, { tk := [7] }, { tk := [5] }, {}, { tk := [8] }] [] [0, 3] [] [] ⟨[(0, (.v (.str d114_), [])), (3, (.v (.sl (List.map GSign.c j115_.1)), [(0, .app 54)]))], [], []⟩ _ (by kernel_rfl) (.cons (cspec_SignsOf h205) .nil) ?_
  refine Wc.seq ?_
  refine Wc.seq ?_
  rcases oif h with ⟨h206, h⟩ | ⟨h206, h⟩
  · obtain ⟨l116_, h207, h⟩ := obind h
    rcases oif h with ⟨h208, h⟩ | ⟨h208, h⟩
    · obtain ⟨l117_, h209, h⟩ := obind h
      refine Wc.region [{}, { v := some (.int .i64 (j115_.1.length : Int)) }, {}, { re := some (.bool true) }, {}, { v := some (.vptr [.int .i64 l116_.gKind, .str l116_.gText, .int .i64 l116_.gNum, .int .i64 l116_.gAt, .bool l116_.gNear]) }, {}, {}, {}, {}, { re := some (.bool true) }, { tk := [3] }, { v := some (.vptr [.int .i64 l117_.gKind, .str l117_.gText, .int .i64 l117_.gNum, .int .i64 l117_.gAt, .bool l117_.gNear]) }] [] [0, 27] [] [] ⟨[(0, (.v (.str d114_), [])), (27, (.v (.bool (sEq l117_.gText d114_)), []))], [], []⟩ _ (by kernel_rfl) (.cons (len_obl GSign.c j115_.1) (.cons (congrArg AV.bool h206) (.cons (at_obl (c := GSign.c) (GSign.c_eq l116_) GSign.c_len h207) (.cons (len_ok 1 [.int .i64 l116_.gKind, .str l116_.gText, .int .i64 l116_.gNum, .int .i64 l116_.gAt, .bool l116_.gNear]) (.cons (congrArg AV.bool h208) (.cons (at_obl (c := GSign.c) (GSign.c_eq l117_) GSign.c_len h209) (.cons (len_ok 1 [.str l117_.gText, .int .i64 l117_.gNum, .int .i64 l117_.gAt, .bool l117_.gNear]) .nil))))))) ?_
      rcases oif h with ⟨h210, h⟩ | ⟨h210, h⟩
      · refine Wc.condT h210 (by kernel_rfl) ?_
        refine Wc.seq ?_
        refine Wc.region [] [] [2] [] [] ⟨[(2, (.v (.str d114_), []))], [], []⟩ _ (by kernel_rfl) .nil ?_
        refine Wc.ret ?_
        obtain rfl := Option.some.inj h
        exact ⟨.inl rfl, by kernel_rfl, by kernel_rfl⟩
      · refine Wc.condF h210 (by kernel_rfl) ?_
        refine Wc.fix (st' := ⟨[(0, (.v (.str d114_), []))], [], []⟩) [] [0] [] [] (by kernel_rfl) ?_
        refine Wc.skip ?_
        refine Wc.seq ?_
        obtain ⟨h211, h⟩ := oguard h
        obtain ⟨h212, h⟩ := oguard h
        refine Wc.region [] [] [2] [] [] ⟨[(2, (.v (.str (((bs [39]) ++ d114_) ++ (bs [39]))), []))], [], []⟩ _ (by kernel_rfl) (.cons h211 (.cons h212 .nil)) ?_
        refine Wc.ret ?_
        obtain rfl := Option.some.inj h
        exact ⟨.inl rfl, by kernel_rfl, by kernel_rfl⟩
    · refine Wc.region [{}, { v := some (.int .i64 (j115_.1.length : Int)) }, {}, { re := some (.bool true) }, {}, { v := some (.vptr [.int .i64 l116_.gKind, .str l116_.gText, .int .i64 l116_.gNum, .int .i64 l116_.gAt, .bool l116_.gNear]) }, {}, {}, {}, {}, { re := some (.bool false) }] [] [0, 27] [] [] ⟨[(0, (.v (.str d114_), [])), (27, (.v (.bool false), []))], [], []⟩ _ (by kernel_rfl) (.cons (len_obl GSign.c j115_.1) (.cons (congrArg AV.bool h206) (.cons (at_obl (c := GSign.c) (GSign.c_eq l116_) GSign.c_len h207) (.cons (len_ok 1 [.int .i64 l116_.gKind, .str l116_.gText, .int .i64 l116_.gNum, .int .i64 l116_.gAt, .bool l116_.gNear]) (.cons (congrArg AV.bool h208) .nil))))) ?_
      refine Wc.condF rfl (by kernel_rfl) ?_
      refine Wc.fix (st' := ⟨[(0, (.v (.str d114_), []))], [], []⟩) [] [0] [] [] (by kernel_rfl) ?_
      refine Wc.skip ?_
      refine Wc.seq ?_
      obtain ⟨h213, h⟩ := oguard h
      obtain ⟨h214, h⟩ := oguard h
      refine Wc.region [] [] [2] [] [] ⟨[(2, (.v (.str (((bs [39]) ++ d114_) ++ (bs [39]))), []))], [], []⟩ _ (by kernel_rfl) (.cons h213 (.cons h214 .nil)) ?_
      refine Wc.ret ?_
      obtain rfl := Option.some.inj h
      exact ⟨.inl rfl, by kernel_rfl, by kernel_rfl⟩
  · refine Wc.region [{}, { v := some (.int .i64 (j115_.1.length : Int)) }, {}, { re := some (.bool false) }] [] [0, 27] [] [] ⟨[(0, (.v (.str d114_), [])), (27, (.v (.bool false), []))], [], []⟩ _ (by kernel_rfl) (.cons (len_obl GSign.c j115_.1) (.cons (congrArg AV.bool h206) .nil)) ?_
    refine Wc.condF rfl (by kernel_rfl) ?_
    refine Wc.fix (st' := ⟨[(0, (.v (.str d114_), []))], [], []⟩) [] [0] [] [] (by kernel_rfl) ?_
    refine Wc.skip ?_
    refine Wc.seq ?_
    obtain ⟨h215, h⟩ := oguard h
    obtain ⟨h216, h⟩ := oguard h
    refine Wc.region [] [] [2] [] [] ⟨[(2, (.v (.str (((bs [39]) ++ d114_) ++ (bs [39]))), []))], [], []⟩ _ (by kernel_rfl) (.cons h215 (.cons h216 .nil)) ?_
    refine Wc.ret ?_
    obtain rfl := Option.some.inj h
    exact ⟨.inl rfl, by kernel_rfl, by kernel_rfl⟩

/-- spec.l03Is -/
def pspec_l03Is (k : Nat) (c118_ : GTerm) (d119_ : ByteArray) (b120_ : Int) : Option Bool :=
  if (c118_.gKind == 4) = true then
    if (sEq c118_.gName d119_) = true then
      some ((c118_.gKids.length : Int) == b120_)
    else
      some false
  else
    some false
theorem cspec_l03Is {k : Nat} {c118_ : GTerm} {d119_ : ByteArray} {b120_ : Int} {r : Bool} (h : pspec_l03Is k c118_ d119_ b120_ = some r) : FnO Tryd.prog 21 [.v (.agg [.int .i64 c118_.gKind, .str c118_.gName, .int .i64 c118_.gNum, .sl (List.map GTerm.c c118_.gKids)]) [], .v (.str d119_) [], .v (.int .i64 b120_) []] (.v (.bool r) []) [] := by
  refine FnO.of Tryd.func21 (rfl : Tryd.f21.body = some _) (Nat.le_of_ble_eq_true (by kernel_rfl)) (Nat.le_of_ble_eq_true (by kernel_rfl)) ?_
  intro w0 X0 Fin pv0 pb gt
  unfold pspec_l03Is at h
  refine Wc.seq ?_
  refine Wc.region [] [] [1, 2, 3] [3] [] ⟨[(1, (.v (.str d119_), [])), (2, (.v (.int .i64 b120_), [])), (3, (.ptr 3 0, []))], [(3, .cells [.int .i64 c118_.gKind, .str c118_.gName, .int .i64 c118_.gNum, .sl (List.map GTerm.c c118_.gKids)] [])], []⟩ _ (by kernel_rfl) .nil ?_
  refine Wc.seq ?_
  rcases oif h with ⟨h217, h⟩ | ⟨h217, h⟩
  · rcases oif h with ⟨h218, h⟩ | ⟨h218, h⟩
    · refine Wc.region [{}, {}, {}, { re := some (.bool true) }, {}, {}, {}, {}, {}, { re := some (.bool true) }, {}, {}, { v := some (.int .i64 (c118_.gKids.length : Int)) }] [] [6] [] [] ⟨[(6, (.v (.bool ((c118_.gKids.length : Int) == b120_)), []))], [], []⟩ _ (by kernel_rfl) (.cons (congrArg AV.bool h217) (.cons (congrArg AV.bool h218) (.cons (len_obl GTerm.c c118_.gKids) .nil))) ?_
      refine Wc.ret ?_
      obtain rfl := Option.some.inj h
      exact ⟨.inl rfl, by kernel_rfl, by kernel_rfl⟩
    · refine Wc.region [{}, {}, {}, { re := some (.bool true) }, {}, {}, {}, {}, {}, { re := some (.bool false) }] [] [6] [] [] ⟨[(6, (.v (.bool false), []))], [], []⟩ _ (by kernel_rfl) (.cons (congrArg AV.bool h217) (.cons (congrArg AV.bool h218) .nil)) ?_
      refine Wc.ret ?_
      obtain rfl := Option.some.inj h
      exact ⟨.inl rfl, by kernel_rfl, by kernel_rfl⟩
  · refine Wc.region [{}, {}, {}, { re := some (.bool false) }] [] [6] [] [] ⟨[(6, (.v (.bool false), []))], [], []⟩ _ (by kernel_rfl) (.cons (congrArg AV.bool h217) .nil) ?_
    refine Wc.ret ?_
    obtain rfl := Option.some.inj h
    exact ⟨.inl rfl, by kernel_rfl, by kernel_rfl⟩

def pspec_l07Row_L1 (k : Nat) (rspec_l07Row : GTerm → Option ByteArray) (rspec_l07Write : GTerm → Option ByteArray) : Nat → ByteArray → GTerm → Option (Out ByteArray (ByteArray × GTerm))
  | 0, _, _ => none
  | m + 1, d124_, c125_ =>
    (at' c125_.gKids 1).bind fun c128_ =>
    (pspec_l03Is k c128_ (bs [46]) 2).bind fun e129_ =>
    if e129_ = true then
      (at' c125_.gKids 1).bind fun c130_ =>
      if sumOk d124_ (bs [44]) then
        (at' c130_.gKids 0).bind fun c131_ =>
        (rspec_l07Write c131_).bind fun d132_ =>
        if sumOk (d124_ ++ (bs [44])) d132_ then
          pspec_l07Row_L1 k rspec_l07Row rspec_l07Write m ((d124_ ++ (bs [44])) ++ d132_) c130_
        else none
      else none
    else
      some (.done (d124_, c125_))
def pspec_l07Write_J2 (k : Nat) (rspec_l07Row : GTerm → Option ByteArray) (rspec_l07Write : GTerm → Option ByteArray) (c136_ : GTerm) (d148_ : ByteArray) : Option ByteArray :=
  (at' c136_.gKids 0).bind fun c149_ =>
  (rspec_l07Write c149_).bind fun d150_ =>
  if sumOk (bs [40]) d150_ then
    if sumOk ((bs [40]) ++ d150_) (bs [32]) then
      if sumOk (((bs [40]) ++ d150_) ++ (bs [32])) d148_ then
        if sumOk ((((bs [40]) ++ d150_) ++ (bs [32])) ++ d148_) (bs [32]) then
          (at' c136_.gKids 1).bind fun c151_ =>
          (rspec_l07Write c151_).bind fun d152_ =>
          if sumOk (((((bs [40]) ++ d150_) ++ (bs [32])) ++ d148_) ++ (bs [32])) d152_ then
            if sumOk ((((((bs [40]) ++ d150_) ++ (bs [32])) ++ d148_) ++ (bs [32])) ++ d152_) (bs [41]) then
              some (((((((bs [40]) ++ d150_) ++ (bs [32])) ++ d148_) ++ (bs [32])) ++ d152_) ++ (bs [41]))
            else none
          else none
        else none
      else none
    else none
  else none
def pspec_l07Write_J4 (k : Nat) (rspec_l07Row : GTerm → Option ByteArray) (rspec_l07Write : GTerm → Option ByteArray) (bk_ : ByteArray → Int → Option (Out ByteArray ByteArray)) (c136_ : GTerm) (b155_ : Int) (d157_ : ByteArray) : Option (Out ByteArray ByteArray) :=
  (at' c136_.gKids b155_).bind fun c158_ =>
  (rspec_l07Write c158_).bind fun d159_ =>
  if sumOk d157_ d159_ then
    bk_ (d157_ ++ d159_) (wr.i64 (b155_ + 1))
  else none
def pspec_l07Write_L3 (k : Nat) (rspec_l07Row : GTerm → Option ByteArray) (rspec_l07Write : GTerm → Option ByteArray) (c136_ : GTerm) : Nat → ByteArray → Int → Option (Out ByteArray ByteArray)
  | 0, _, _ => none
  | m + 1, d154_, b155_ =>
    if (decide (b155_ < (c136_.gKids.length : Int))) = true then
      if (decide (b155_ > 0)) = true then
        if sumOk d154_ (bs [44]) then
          pspec_l07Write_J4 k rspec_l07Row rspec_l07Write (pspec_l07Write_L3 k rspec_l07Row rspec_l07Write c136_ m) c136_ b155_ (d154_ ++ (bs [44]))
        else none
      else
        pspec_l07Write_J4 k rspec_l07Row rspec_l07Write (pspec_l07Write_L3 k rspec_l07Row rspec_l07Write c136_ m) c136_ b155_ d154_
    else
      some (.done d154_)
def pspec_l07Write_J1 (k : Nat) (rspec_l07Row : GTerm → Option ByteArray) (rspec_l07Write : GTerm → Option ByteArray) (c136_ : GTerm) (e146_ : Bool) : Option ByteArray :=
  if e146_ = true then
    (pspec_AtomText k c136_.gName).bind fun d147_ =>
    if (sEq c136_.gName (bs [44])) = true then
      pspec_l07Write_J2 k rspec_l07Row rspec_l07Write c136_ (bs [44])
    else
      pspec_l07Write_J2 k rspec_l07Row rspec_l07Write c136_ d147_
  else
    (pspec_AtomText k c136_.gName).bind fun d153_ =>
    if sumOk d153_ (bs [40]) then
      (pspec_l07Write_L3 k rspec_l07Row rspec_l07Write c136_ k (d153_ ++ (bs [40])) 0).bind fun out3 => match out3 with
      | .ret r => some r
      | .done d156_ =>
        if sumOk d156_ (bs [41]) then
          some (d156_ ++ (bs [41]))
        else none
    else none
mutual
/-- spec.l07Row -/
def pspec_l07Row : Nat → GTerm → Option ByteArray
  | 0, _ => none
  | k + 1, c121_ =>
    (at' c121_.gKids 0).bind fun c122_ =>
    (pspec_l07Write k c122_).bind fun d123_ =>
    if sumOk (bs [91]) d123_ then
      (pspec_l07Row_L1 k (pspec_l07Row k) (pspec_l07Write k) k ((bs [91]) ++ d123_) c121_).bind fun out1 => match out1 with
      | .ret r => some r
      | .done (d126_, c127_) =>
        (at' c127_.gKids 1).bind fun c133_ =>
        if (c133_.gKind == 2) = true then
          if (sEq c133_.gName (bs [91, 93])) = true then
            if sumOk d126_ (bs [93]) then
              some (d126_ ++ (bs [93]))
            else none
          else
            if sumOk d126_ (bs [124]) then
              (pspec_l07Write k c133_).bind fun d134_ =>
              if sumOk (d126_ ++ (bs [124])) d134_ then
                if sumOk ((d126_ ++ (bs [124])) ++ d134_) (bs [93]) then
                  some (((d126_ ++ (bs [124])) ++ d134_) ++ (bs [93]))
                else none
              else none
            else none
        else
          if sumOk d126_ (bs [124]) then
            (pspec_l07Write k c133_).bind fun d135_ =>
            if sumOk (d126_ ++ (bs [124])) d135_ then
              if sumOk ((d126_ ++ (bs [124])) ++ d135_) (bs [93]) then
                some (((d126_ ++ (bs [124])) ++ d135_) ++ (bs [93]))
              else none
            else none
          else none
    else none
/-- spec.l07Write -/
def pspec_l07Write : Nat → GTerm → Option ByteArray
  | 0, _ => none
  | k + 1, c136_ =>
    if (c136_.gKind == 1) = true then
      (pspec_Decimal k c136_.gNum).bind fun d137_ =>
      if sumOk (bs [95]) d137_ then
        some ((bs [95]) ++ d137_)
      else none
    else
      if (c136_.gKind == 3) = true then
        if (decide (c136_.gNum < 0)) = true then
          (pspec_Decimal k (wr.i64 (0 - c136_.gNum))).bind fun d138_ =>
          if sumOk (bs [45]) d138_ then
            some ((bs [45]) ++ d138_)
          else none
        else
          (pspec_Decimal k c136_.gNum).bind fun d139_ =>
          some d139_
      else
        if (c136_.gKind == 2) = true then
          if (sEq c136_.gName (bs [91, 93])) = true then
            some (bs [91, 93])
          else
            (pspec_l07Op k c136_.gName).bind fun e140_ =>
            if e140_ = true then
              (pspec_AtomText k c136_.gName).bind fun d141_ =>
              if sumOk (bs [40]) d141_ then
                if sumOk ((bs [40]) ++ d141_) (bs [41]) then
                  some (((bs [40]) ++ d141_) ++ (bs [41]))
                else none
              else none
            else
              (pspec_AtomText k c136_.gName).bind fun d142_ =>
              some d142_
        else
          (pspec_l03Is k c136_ (bs [46]) 2).bind fun e143_ =>
          if e143_ = true then
            (pspec_l07Row k c136_).bind fun d144_ =>
            some d144_
          else
            (pspec_InfixOf k c136_.gName).bind fun f145_ =>
            if f145_.2 = true then
              pspec_l07Write_J1 k (pspec_l07Row k) (pspec_l07Write k) c136_ ((c136_.gKids.length : Int) == 2)
            else
              pspec_l07Write_J1 k (pspec_l07Row k) (pspec_l07Write k) c136_ false
end
set_option maxHeartbeats 4000000 in
theorem all_pspec_l07Row : ∀ k : Nat, (∀ {c121_ : GTerm} {r : ByteArray}, pspec_l07Row k c121_ = some r → FnO Tryd.prog 22 [.v (.agg [.int .i64 c121_.gKind, .str c121_.gName, .int .i64 c121_.gNum, .sl (List.map GTerm.c c121_.gKids)]) []] (.v (.str r) []) []) ∧
    (∀ {c136_ : GTerm} {r : ByteArray}, pspec_l07Write k c136_ = some r → FnO Tryd.prog 11 [.v (.agg [.int .i64 c136_.gKind, .str c136_.gName, .int .i64 c136_.gNum, .sl (List.map GTerm.c c136_.gKids)]) []] (.v (.str r) []) []) := by
  intro k
  induction k with
  | zero =>
    refine ⟨?_, ?_⟩
    · intro c121_ r h
      exact (onone (by rw [pspec_l07Row] at h; exact h)).elim
    · intro c136_ r h
      exact (onone (by rw [pspec_l07Write] at h; exact h)).elim
  | succ k ih =>
    obtain ⟨ih_pspec_l07Row, ih_pspec_l07Write⟩ := ih
    refine ⟨?_, ?_⟩
    · intro c121_ r h
      rw [pspec_l07Row] at h
      refine FnO.of Tryd.func22 (rfl : Tryd.f22.body = some _) (Nat.le_of_ble_eq_true (by kernel_rfl)) (Nat.le_of_ble_eq_true (by kernel_rfl)) ?_
      intro w0 X0 Fin pv0 pb gt
      refine Wc.seq ?_
      refine Wc.region [] [] [1] [1] [] ⟨[(1, (.ptr 1 0, []))], [(1, .cells [.int .i64 c121_.gKind, .str c121_.gName, .int .i64 c121_.gNum, .sl (List.map GTerm.c c121_.gKids)] [])], []⟩ _ (by kernel_rfl) .nil ?_
      refine Wc.seq ?_
      obtain ⟨c122_, h219, h⟩ := obind h
      obtain ⟨d123_, h220, h⟩ := obind h
      obtain ⟨h221, h⟩ := oguard h
      refine Wc.region [{}, {}, { v := some (.vptr [.int .i64 c122_.gKind, .str c122_.gName, .int .i64 c122_.gNum, .sl (List.map GTerm.c c122_.gKids)]) }, {}, { r := some (.v (.str d123_) []) }] [] [1, 3] [1] [] ⟨[(1, (.ptr 1 0, [])), (3, (.v (.str ((bs [91]) ++ d123_)), []))], [(1, .cells [.int .i64 c121_.gKind, .str c121_.gName, .int .i64 c121_.gNum, .sl (List.map GTerm.c c121_.gKids)] [])], []⟩ _ (by kernel_rfl) (.cons (at_obl (c := GTerm.c) (GTerm.c_eq c122_) GTerm.c_len h219) (.cons (len_ok 4 [.int .i64 c122_.gKind, .str c122_.gName, .int .i64 c122_.gNum, .sl (List.map GTerm.c c122_.gKids)]) (.cons (ih_pspec_l07Write h220) (.cons h221 .nil)))) ?_
      obtain ⟨out1, h222, h⟩ := obind h
      refine Wc.seqJ (fun st => ∃ (d126_ : ByteArray) (c127_ : GTerm), out1 = .done (d126_, c127_) ∧ st = ⟨[(1, (.ptr 1 0, [])), (3, (.v (.str d126_), []))], [(1, .cells [.int .i64 c127_.gKind, .str c127_.gName, .int .i64 c127_.gNum, .sl (List.map GTerm.c c127_.gKids)] [])], []⟩) ?_ ?_
      · refine Wc.block ?_
        refine Wc.loop (fun m st => ∃ (d124_ : ByteArray) (c125_ : GTerm), st = ⟨[(1, (.ptr 1 0, [])), (3, (.v (.str d124_), []))], [(1, .cells [.int .i64 c125_.gKind, .str c125_.gName, .int .i64 c125_.gNum, .sl (List.map GTerm.c c125_.gKids)] [])], []⟩ ∧ pspec_l07Row_L1 k (pspec_l07Row k) (pspec_l07Write k) m d124_ c125_ = some out1) ?_ k ⟨_, _, rfl, h222⟩
        rintro m st ⟨d124_, c125_, rfl, h222⟩
        cases m with
        | zero => exact (onone h222).elim
        | succ m =>
          refine Wc.seq ?_
          refine Wc.seq ?_
          obtain ⟨c128_, h223, h222⟩ := obind h222
          obtain ⟨e129_, h224, h222⟩ := obind h222
          refine Wc.region [{}, {}, { v := some (.vptr [.int .i64 c128_.gKind, .str c128_.gName, .int .i64 c128_.gNum, .sl (List.map GTerm.c c128_.gKids)]) }, {}, { r := some (.v (.bool e129_) []) }] [] [1, 3, 15] [1] [] ⟨[(1, (.ptr 1 0, [])), (3, (.v (.str d124_), [])), (15, (.v (.bool e129_), []))], [(1, .cells [.int .i64 c125_.gKind, .str c125_.gName, .int .i64 c125_.gNum, .sl (List.map GTerm.c c125_.gKids)] [])], []⟩ _ (by kernel_rfl) (.cons (at_obl (c := GTerm.c) (GTerm.c_eq c128_) GTerm.c_len h223) (.cons (len_ok 4 [.int .i64 c128_.gKind, .str c128_.gName, .int .i64 c128_.gNum, .sl (List.map GTerm.c c128_.gKids)]) (.cons (cspec_l03Is h224) .nil))) ?_
          rcases oif h222 with ⟨h225, h222⟩ | ⟨h225, h222⟩
          · refine Wc.condT h225 (by kernel_rfl) ?_
            refine Wc.fix (st' := ⟨[(1, (.ptr 1 0, [])), (3, (.v (.str d124_), []))], [(1, .cells [.int .i64 c125_.gKind, .str c125_.gName, .int .i64 c125_.gNum, .sl (List.map GTerm.c c125_.gKids)] [])], []⟩) [] [1, 3] [1] [] (by kernel_rfl) ?_
            refine Wc.skip ?_
            refine Wc.block ?_
            refine Wc.seq ?_
            obtain ⟨c130_, h226, h222⟩ := obind h222
            refine Wc.region [{}, {}, { v := some (.vptr [.int .i64 c130_.gKind, .str c130_.gName, .int .i64 c130_.gNum, .sl (List.map GTerm.c c130_.gKids)]) }] [] [1, 3] [1] [] ⟨[(1, (.ptr 1 0, [])), (3, (.v (.str d124_), []))], [(1, .cells [.int .i64 c130_.gKind, .str c130_.gName, .int .i64 c130_.gNum, .sl (List.map GTerm.c c130_.gKids)] [])], []⟩ _ (by kernel_rfl) (.cons (at_obl (c := GTerm.c) (GTerm.c_eq c130_) GTerm.c_len h226) (.cons (len_ok 4 [.int .i64 c130_.gKind, .str c130_.gName, .int .i64 c130_.gNum, .sl (List.map GTerm.c c130_.gKids)]) .nil)) ?_
            obtain ⟨h227, h222⟩ := oguard h222
            obtain ⟨c131_, h228, h222⟩ := obind h222
            obtain ⟨d132_, h229, h222⟩ := obind h222
            obtain ⟨h230, h222⟩ := oguard h222
            refine Wc.region [{}, {}, {}, {}, { v := some (.vptr [.int .i64 c131_.gKind, .str c131_.gName, .int .i64 c131_.gNum, .sl (List.map GTerm.c c131_.gKids)]) }, {}, { r := some (.v (.str d132_) []) }] [] [1, 3] [1] [] ⟨[(1, (.ptr 1 0, [])), (3, (.v (.str ((d124_ ++ (bs [44])) ++ d132_)), []))], [(1, .cells [.int .i64 c130_.gKind, .str c130_.gName, .int .i64 c130_.gNum, .sl (List.map GTerm.c c130_.gKids)] [])], []⟩ _ (by kernel_rfl) (.cons h227 (.cons (at_obl (c := GTerm.c) (GTerm.c_eq c131_) GTerm.c_len h228) (.cons (len_ok 4 [.int .i64 c131_.gKind, .str c131_.gName, .int .i64 c131_.gNum, .sl (List.map GTerm.c c131_.gKids)]) (.cons (ih_pspec_l07Write h229) (.cons h230 .nil))))) ?_
            exact ⟨_, Nat.lt_succ_self _, _, _, rfl, h222⟩
          · refine Wc.condF h225 (by kernel_rfl) ?_
            refine Wc.fix (st' := ⟨[(1, (.ptr 1 0, [])), (3, (.v (.str d124_), []))], [(1, .cells [.int .i64 c125_.gKind, .str c125_.gName, .int .i64 c125_.gNum, .sl (List.map GTerm.c c125_.gKids)] [])], []⟩) [] [1, 3] [1] [] (by kernel_rfl) ?_
            refine Wc.exit ?_
            obtain rfl := Option.some.inj h222
            exact ⟨_, _, rfl, rfl⟩
      · rintro st ⟨d126_, c127_, rfl, rfl⟩
        refine Wc.seq ?_
        obtain ⟨c133_, h231, h⟩ := obind h
        refine Wc.region [{}, {}, { v := some (.vptr [.int .i64 c133_.gKind, .str c133_.gName, .int .i64 c133_.gNum, .sl (List.map GTerm.c c133_.gKids)]) }] [] [3, 4] [4] [] ⟨[(3, (.v (.str d126_), [])), (4, (.ptr 4 0, []))], [(4, .cells [.int .i64 c133_.gKind, .str c133_.gName, .int .i64 c133_.gNum, .sl (List.map GTerm.c c133_.gKids)] [])], []⟩ _ (by kernel_rfl) (.cons (at_obl (c := GTerm.c) (GTerm.c_eq c133_) GTerm.c_len h231) (.cons (len_ok 4 [.int .i64 c133_.gKind, .str c133_.gName, .int .i64 c133_.gNum, .sl (List.map GTerm.c c133_.gKids)]) .nil)) ?_
        refine Wc.seq ?_
        refine Wc.seq ?_
        rcases oif h with ⟨h232, h⟩ | ⟨h232, h⟩
        · refine Wc.region [{}, {}, {}, { re := some (.bool true) }] [] [3, 4, 39] [4] [] ⟨[(3, (.v (.str d126_), [])), (4, (.ptr 4 0, [])), (39, (.v (.bool (sEq c133_.gName (bs [91, 93]))), []))], [(4, .cells [.int .i64 c133_.gKind, .str c133_.gName, .int .i64 c133_.gNum, .sl (List.map GTerm.c c133_.gKids)] [])], []⟩ _ (by kernel_rfl) (.cons (congrArg AV.bool h232) .nil) ?_
          rcases oif h with ⟨h233, h⟩ | ⟨h233, h⟩
          · refine Wc.condT h233 (by kernel_rfl) ?_
            refine Wc.seq ?_
            obtain ⟨h234, h⟩ := oguard h
            refine Wc.region [] [] [2] [] [] ⟨[(2, (.v (.str (d126_ ++ (bs [93]))), []))], [], []⟩ _ (by kernel_rfl) (.cons h234 .nil) ?_
            refine Wc.ret ?_
            obtain rfl := Option.some.inj h
            exact ⟨.inl rfl, by kernel_rfl, by kernel_rfl⟩
          · refine Wc.condF h233 (by kernel_rfl) ?_
            refine Wc.fix (st' := ⟨[(3, (.v (.str d126_), [])), (4, (.ptr 4 0, []))], [(4, .cells [.int .i64 c133_.gKind, .str c133_.gName, .int .i64 c133_.gNum, .sl (List.map GTerm.c c133_.gKids)] [])], []⟩) [] [3, 4] [4] [] (by kernel_rfl) ?_
            refine Wc.skip ?_
            refine Wc.seq ?_
            obtain ⟨h235, h⟩ := oguard h
            obtain ⟨d134_, h236, h⟩ := obind h
            obtain ⟨h237, h⟩ := oguard h
            obtain ⟨h238, h⟩ := oguard h
            refine Wc.region [{}, {}, {}, { r := some (.v (.str d134_) []) }] [] [2] [] [] ⟨[(2, (.v (.str (((d126_ ++ (bs [124])) ++ d134_) ++ (bs [93]))), []))], [], []⟩ _ (by kernel_rfl) (.cons h235 (.cons (ih_pspec_l07Write h236) (.cons h237 (.cons h238 .nil)))) ?_
            refine Wc.ret ?_
            obtain rfl := Option.some.inj h
            exact ⟨.inl rfl, by kernel_rfl, by kernel_rfl⟩
        · refine Wc.region [{}, {}, {}, { re := some (.bool false) }] [] [3, 4, 39] [4] [] ⟨[(3, (.v (.str d126_), [])), (4, (.ptr 4 0, [])), (39, (.v (.bool false), []))], [(4, .cells [.int .i64 c133_.gKind, .str c133_.gName, .int .i64 c133_.gNum, .sl (List.map GTerm.c c133_.gKids)] [])], []⟩ _ (by kernel_rfl) (.cons (congrArg AV.bool h232) .nil) ?_
          refine Wc.condF rfl (by kernel_rfl) ?_
          refine Wc.fix (st' := ⟨[(3, (.v (.str d126_), [])), (4, (.ptr 4 0, []))], [(4, .cells [.int .i64 c133_.gKind, .str c133_.gName, .int .i64 c133_.gNum, .sl (List.map GTerm.c c133_.gKids)] [])], []⟩) [] [3, 4] [4] [] (by kernel_rfl) ?_
          refine Wc.skip ?_
          refine Wc.seq ?_
          obtain ⟨h239, h⟩ := oguard h
          obtain ⟨d135_, h240, h⟩ := obind h
          obtain ⟨h241, h⟩ := oguard h
          obtain ⟨h242, h⟩ := oguard h
          refine Wc.region [{}, {}, {}, { r := some (.v (.str d135_) []) }] [] [2] [] [] ⟨[(2, (.v (.str (((d126_ ++ (bs [124])) ++ d135_) ++ (bs [93]))), []))], [], []⟩ _ (by kernel_rfl) (.cons h239 (.cons (ih_pspec_l07Write h240) (.cons h241 (.cons h242 .nil)))) ?_
          refine Wc.ret ?_
          obtain rfl := Option.some.inj h
          exact ⟨.inl rfl, by kernel_rfl, by kernel_rfl⟩
    · intro c136_ r h
      rw [pspec_l07Write] at h
      refine FnO.of Tryd.func11 (rfl : Tryd.f11.body = some _) (Nat.le_of_ble_eq_true (by kernel_rfl)) (Nat.le_of_ble_eq_true (by kernel_rfl)) ?_
      intro w0 X0 Fin pv0 pb gt
      refine Wc.seq ?_
      refine Wc.region [] [] [1] [1] [] ⟨[(1, (.ptr 1 0, []))], [(1, .cells [.int .i64 c136_.gKind, .str c136_.gName, .int .i64 c136_.gNum, .sl (List.map GTerm.c c136_.gKids)] [])], []⟩ _ (by kernel_rfl) .nil ?_
      refine Wc.seq ?_
      refine Wc.seq ?_
      refine Wc.region [] [] [1, 9] [1] [] ⟨[(1, (.ptr 1 0, [])), (9, (.v (.int .i64 c136_.gKind), []))], [(1, .cells [.int .i64 c136_.gKind, .str c136_.gName, .int .i64 c136_.gNum, .sl (List.map GTerm.c c136_.gKids)] [])], []⟩ _ (by kernel_rfl) .nil ?_
      refine Wc.block ?_
      refine Wc.seq ?_
      refine Wc.region [] [] [1, 9, 10] [1] [] ⟨[(1, (.ptr 1 0, [])), (9, (.v (.int .i64 c136_.gKind), [])), (10, (.v (.bool (c136_.gKind == 1)), []))], [(1, .cells [.int .i64 c136_.gKind, .str c136_.gName, .int .i64 c136_.gNum, .sl (List.map GTerm.c c136_.gKids)] [])], []⟩ _ (by kernel_rfl) .nil ?_
      rcases oif h with ⟨h243, h⟩ | ⟨h243, h⟩
      · refine Wc.condT h243 (by kernel_rfl) ?_
        refine Wc.seq ?_
        obtain ⟨d137_, h244, h⟩ := obind h
        obtain ⟨h245, h⟩ := oguard h
        refine Wc.region [{}, {}, { r := some (.v (.str d137_) []) }] [] [2] [] [] ⟨[(2, (.v (.str ((bs [95]) ++ d137_)), []))], [], []⟩ _ (by kernel_rfl) (.cons (cspec_Decimal h244) (.cons h245 .nil)) ?_
        refine Wc.ret ?_
        obtain rfl := Option.some.inj h
        exact ⟨.inl rfl, by kernel_rfl, by kernel_rfl⟩
      · refine Wc.condF h243 (by kernel_rfl) ?_
        refine Wc.seq ?_
        refine Wc.region [] [] [1, 9, 16] [1] [] ⟨[(1, (.ptr 1 0, [])), (9, (.v (.int .i64 c136_.gKind), [])), (16, (.v (.bool (c136_.gKind == 3)), []))], [(1, .cells [.int .i64 c136_.gKind, .str c136_.gName, .int .i64 c136_.gNum, .sl (List.map GTerm.c c136_.gKids)] [])], []⟩ _ (by kernel_rfl) .nil ?_
        rcases oif h with ⟨h246, h⟩ | ⟨h246, h⟩
        · refine Wc.condT h246 (by kernel_rfl) ?_
          refine Wc.seq ?_
          refine Wc.seq ?_
          refine Wc.region [] [] [1, 20] [1] [] ⟨[(1, (.ptr 1 0, [])), (20, (.v (.bool (decide (c136_.gNum < 0))), []))], [(1, .cells [.int .i64 c136_.gKind, .str c136_.gName, .int .i64 c136_.gNum, .sl (List.map GTerm.c c136_.gKids)] [])], []⟩ _ (by kernel_rfl) .nil ?_
          rcases oif h with ⟨h247, h⟩ | ⟨h247, h⟩
          · refine Wc.condT h247 (by kernel_rfl) ?_
            refine Wc.seq ?_
            obtain ⟨d138_, h248, h⟩ := obind h
            obtain ⟨h249, h⟩ := oguard h
            refine Wc.region [{}, {}, {}, { r := some (.v (.str d138_) []) }] [] [2] [] [] ⟨[(2, (.v (.str ((bs [45]) ++ d138_)), []))], [], []⟩ _ (by kernel_rfl) (.cons (cspec_Decimal h248) (.cons h249 .nil)) ?_
            refine Wc.ret ?_
            obtain rfl := Option.some.inj h
            exact ⟨.inl rfl, by kernel_rfl, by kernel_rfl⟩
          · refine Wc.condF h247 (by kernel_rfl) ?_
            refine Wc.fix (st' := ⟨[(1, (.ptr 1 0, []))], [(1, .cells [.int .i64 c136_.gKind, .str c136_.gName, .int .i64 c136_.gNum, .sl (List.map GTerm.c c136_.gKids)] [])], []⟩) [] [1] [1] [] (by kernel_rfl) ?_
            refine Wc.skip ?_
            refine Wc.seq ?_
            obtain ⟨d139_, h250, h⟩ := obind h
            refine Wc.region [{}, {}, { r := some (.v (.str d139_) []) }] [] [2] [] [] ⟨[(2, (.v (.str d139_), []))], [], []⟩ _ (by kernel_rfl) (.cons (cspec_Decimal h250) .nil) ?_
            refine Wc.ret ?_
            obtain rfl := Option.some.inj h
            exact ⟨.inl rfl, by kernel_rfl, by kernel_rfl⟩
        · refine Wc.condF h246 (by kernel_rfl) ?_
          refine Wc.seq ?_
          refine Wc.region [] [] [1, 29] [1] [] ⟨[(1, (.ptr 1 0, [])), (29, (.v (.bool (c136_.gKind == 2)), []))], [(1, .cells [.int .i64 c136_.gKind, .str c136_.gName, .int .i64 c136_.gNum, .sl (List.map GTerm.c c136_.gKids)] [])], []⟩ _ (by kernel_rfl) .nil ?_
          rcases oif h with ⟨h251, h⟩ | ⟨h251, h⟩
          · refine Wc.condT h251 (by kernel_rfl) ?_
            refine Wc.seq ?_
            refine Wc.seq ?_
            refine Wc.region [] [] [1, 33] [1] [] ⟨[(1, (.ptr 1 0, [])), (33, (.v (.bool (sEq c136_.gName (bs [91, 93]))), []))], [(1, .cells [.int .i64 c136_.gKind, .str c136_.gName, .int .i64 c136_.gNum, .sl (List.map GTerm.c c136_.gKids)] [])], []⟩ _ (by kernel_rfl) .nil ?_
            rcases oif h with ⟨h252, h⟩ | ⟨h252, h⟩
            · refine Wc.condT h252 (by kernel_rfl) ?_
              refine Wc.seq ?_
              refine Wc.region [] [] [2] [] [] ⟨[(2, (.v (.str (bs [91, 93])), []))], [], []⟩ _ (by kernel_rfl) .nil ?_
              refine Wc.ret ?_
              obtain rfl := Option.some.inj h
              exact ⟨.inl rfl, by kernel_rfl, by kernel_rfl⟩
            · refine Wc.condF h252 (by kernel_rfl) ?_
              refine Wc.fix (st' := ⟨[(1, (.ptr 1 0, []))], [(1, .cells [.int .i64 c136_.gKind, .str c136_.gName, .int .i64 c136_.gNum, .sl (List.map GTerm.c c136_.gKids)] [])], []⟩) [] [1] [1] [] (by kernel_rfl) ?_
              refine Wc.skip ?_
              refine Wc.seq ?_
              refine Wc.seq ?_
              obtain ⟨e140_, h253, h⟩ := obind h
              refine Wc.region [{}, {}, { r := some (.v (.bool e140_) []) }] [] [1, 36] [1] [] ⟨[(1, (.ptr 1 0, [])), (36, (.v (.bool e140_), []))], [(1, .cells [.int .i64 c136_.gKind, .str c136_.gName, .int .i64 c136_.gNum, .sl (List.map GTerm.c c136_.gKids)] [])], []⟩ _ (by kernel_rfl) (.cons (cspec_l07Op h253) .nil) ?_
              rcases oif h with ⟨h254, h⟩ | ⟨h254, h⟩
              · refine Wc.condT h254 (by kernel_rfl) ?_
                refine Wc.seq ?_
                obtain ⟨d141_, h255, h⟩ := obind h
                obtain ⟨h256, h⟩ := oguard h
                obtain ⟨h257, h⟩ := oguard h
                refine Wc.region [{}, {}, { r := some (.v (.str d141_) []) }] [] [2] [] [] ⟨[(2, (.v (.str (((bs [40]) ++ d141_) ++ (bs [41]))), []))], [], []⟩ _ (by kernel_rfl) (.cons (cspec_AtomText h255) (.cons h256 (.cons h257 .nil))) ?_
                refine Wc.ret ?_
                obtain rfl := Option.some.inj h
                exact ⟨.inl rfl, by kernel_rfl, by kernel_rfl⟩
              · refine Wc.condF h254 (by kernel_rfl) ?_
                refine Wc.fix (st' := ⟨[(1, (.ptr 1 0, []))], [(1, .cells [.int .i64 c136_.gKind, .str c136_.gName, .int .i64 c136_.gNum, .sl (List.map GTerm.c c136_.gKids)] [])], []⟩) [] [1] [1] [] (by kernel_rfl) ?_
                refine Wc.skip ?_
                refine Wc.seq ?_
                obtain ⟨d142_, h258, h⟩ := obind h
                refine Wc.region [{}, {}, { r := some (.v (.str d142_) []) }] [] [2] [] [] ⟨[(2, (.v (.str d142_), []))], [], []⟩ _ (by kernel_rfl) (.cons (cspec_AtomText h258) .nil) ?_
                refine Wc.ret ?_
                obtain rfl := Option.some.inj h
                exact ⟨.inl rfl, by kernel_rfl, by kernel_rfl⟩
          · refine Wc.condF h251 (by kernel_rfl) ?_
            refine Wc.fix (st' := ⟨[(1, (.ptr 1 0, []))], [(1, .cells [.int .i64 c136_.gKind, .str c136_.gName, .int .i64 c136_.gNum, .sl (List.map GTerm.c c136_.gKids)] [])], []⟩) [] [1] [1] [] (by kernel_rfl) ?_
            refine Wc.skip ?_
            refine Wc.seq ?_
            refine Wc.seq ?_
            obtain ⟨e143_, h259, h⟩ := obind h
            refine Wc.region [{}, { r := some (.v (.bool e143_) []) }] [] [1, 46] [1] [] ⟨[(1, (.ptr 1 0, [])), (46, (.v (.bool e143_), []))], [(1, .cells [.int .i64 c136_.gKind, .str c136_.gName, .int .i64 c136_.gNum, .sl (List.map GTerm.c c136_.gKids)] [])], []⟩ _ (by kernel_rfl) (.cons (cspec_l03Is h259) .nil) ?_
            rcases oif h with ⟨h260, h⟩ | ⟨h260, h⟩
            · refine Wc.condT h260 (by kernel_rfl) ?_
              refine Wc.seq ?_
              obtain ⟨d144_, h261, h⟩ := obind h
              refine Wc.region [{}, { r := some (.v (.str d144_) []) }] [] [2] [] [] ⟨[(2, (.v (.str d144_), []))], [], []⟩ _ (by kernel_rfl) (.cons (ih_pspec_l07Row h261) .nil) ?_
              refine Wc.ret ?_
              obtain rfl := Option.some.inj h
              exact ⟨.inl rfl, by kernel_rfl, by kernel_rfl⟩
            · refine Wc.condF h260 (by kernel_rfl) ?_
              refine Wc.fix (st' := ⟨[(1, (.ptr 1 0, []))], [(1, .cells [.int .i64 c136_.gKind, .str c136_.gName, .int .i64 c136_.gNum, .sl (List.map GTerm.c c136_.gKids)] [])], []⟩) [] [1] [1] [] (by kernel_rfl) ?_
              refine Wc.skip ?_
              refine Wc.seq ?_
              obtain ⟨f145_, h262, h⟩ := obind h
              refine Wc.region [{}, {}, { r := some (.v (.tup [.agg [.str f145_.1.gName, .int .i64 f145_.1.gPrio, .int .i64 f145_.1.gLeft, .int .i64 f145_.1.gRight], .bool f145_.2]) []) }] [] [1, 4] [1] [] ⟨[(1, (.ptr 1 0, [])), (4, (.v (.bool f145_.2), []))], [(1, .cells [.int .i64 c136_.gKind, .str c136_.gName, .int .i64 c136_.gNum, .sl (List.map GTerm.c c136_.gKids)] [])], []⟩ _ (by kernel_rfl) (.cons (cspec_InfixOf h262) .nil) ?_
              refine Wc.seq ?_
              refine Wc.seqJ (fun st => ∃ (e146_ : Bool), st = ⟨[(1, (.ptr 1 0, [])), (61, (.v (.bool e146_), []))], [(1, .cells [.int .i64 c136_.gKind, .str c136_.gName, .int .i64 c136_.gNum, .sl (List.map GTerm.c c136_.gKids)] [])], []⟩ ∧ pspec_l07Write_J1 k (pspec_l07Row k) (pspec_l07Write k) c136_ e146_ = some r) ?_ ?_
              · rcases oif h with ⟨h286, h⟩ | ⟨h286, h⟩
                · refine Wc.region [{}, { re := some (.bool true) }, {}, {}, { v := some (.int .i64 (c136_.gKids.length : Int)) }] [] [1, 61] [1] [] ⟨[(1, (.ptr 1 0, [])), (61, (.v (.bool ((c136_.gKids.length : Int) == 2)), []))], [(1, .cells [.int .i64 c136_.gKind, .str c136_.gName, .int .i64 c136_.gNum, .sl (List.map GTerm.c c136_.gKids)] [])], []⟩ _ (by kernel_rfl) (.cons (congrArg AV.bool h286) (.cons (len_obl GTerm.c c136_.gKids) .nil)) ?_
                  exact ⟨_, rfl, h⟩
                · refine Wc.region [{}, { re := some (.bool false) }] [] [1, 61] [1] [] ⟨[(1, (.ptr 1 0, [])), (61, (.v (.bool false), []))], [(1, .cells [.int .i64 c136_.gKind, .str c136_.gName, .int .i64 c136_.gNum, .sl (List.map GTerm.c c136_.gKids)] [])], []⟩ _ (by kernel_rfl) (.cons (congrArg AV.bool h286) .nil) ?_
                  exact ⟨_, rfl, h⟩
              · rintro st ⟨e146_, rfl, h⟩
                rcases oif h with ⟨h263, h⟩ | ⟨h263, h⟩
                · refine Wc.condT h263 (by kernel_rfl) ?_
                  refine Wc.seq ?_
                  obtain ⟨d147_, h264, h⟩ := obind h
                  refine Wc.region [{}, {}, { r := some (.v (.str d147_) []) }] [] [1, 5] [1] [] ⟨[(1, (.ptr 1 0, [])), (5, (.v (.str d147_), []))], [(1, .cells [.int .i64 c136_.gKind, .str c136_.gName, .int .i64 c136_.gNum, .sl (List.map GTerm.c c136_.gKids)] [])], []⟩ _ (by kernel_rfl) (.cons (cspec_AtomText h264) .nil) ?_
                  refine Wc.seqJ (fun st => ∃ (d148_ : ByteArray), st = ⟨[(1, (.ptr 1 0, [])), (5, (.v (.str d148_), []))], [(1, .cells [.int .i64 c136_.gKind, .str c136_.gName, .int .i64 c136_.gNum, .sl (List.map GTerm.c c136_.gKids)] [])], []⟩ ∧ pspec_l07Write_J2 k (pspec_l07Row k) (pspec_l07Write k) c136_ d148_ = some r) ?_ ?_
                  · refine Wc.seq ?_
                    refine Wc.region [] [] [1, 5, 67] [1] [] ⟨[(1, (.ptr 1 0, [])), (5, (.v (.str d147_), [])), (67, (.v (.bool (sEq c136_.gName (bs [44]))), []))], [(1, .cells [.int .i64 c136_.gKind, .str c136_.gName, .int .i64 c136_.gNum, .sl (List.map GTerm.c c136_.gKids)] [])], []⟩ _ (by kernel_rfl) .nil ?_
                    rcases oif h with ⟨h275, h⟩ | ⟨h275, h⟩
                    · refine Wc.condT h275 (by kernel_rfl) ?_
                      refine Wc.region [] [] [1, 5] [1] [] ⟨[(1, (.ptr 1 0, [])), (5, (.v (.str (bs [44])), []))], [(1, .cells [.int .i64 c136_.gKind, .str c136_.gName, .int .i64 c136_.gNum, .sl (List.map GTerm.c c136_.gKids)] [])], []⟩ _ (by kernel_rfl) .nil ?_
                      exact ⟨_, rfl, h⟩
                    · refine Wc.condF h275 (by kernel_rfl) ?_
                      refine Wc.fix (st' := ⟨[(1, (.ptr 1 0, [])), (5, (.v (.str d147_), []))], [(1, .cells [.int .i64 c136_.gKind, .str c136_.gName, .int .i64 c136_.gNum, .sl (List.map GTerm.c c136_.gKids)] [])], []⟩) [] [1, 5] [1] [] (by kernel_rfl) ?_
                      refine Wc.skip ?_
                      exact ⟨_, rfl, h⟩
                  · rintro st ⟨d148_, rfl, h⟩
                    refine Wc.seq ?_
                    obtain ⟨c149_, h265, h⟩ := obind h
                    obtain ⟨d150_, h266, h⟩ := obind h
                    obtain ⟨h267, h⟩ := oguard h
                    obtain ⟨h268, h⟩ := oguard h
                    obtain ⟨h269, h⟩ := oguard h
                    obtain ⟨h270, h⟩ := oguard h
                    obtain ⟨c151_, h271, h⟩ := obind h
                    obtain ⟨d152_, h272, h⟩ := obind h
                    obtain ⟨h273, h⟩ := oguard h
                    obtain ⟨h274, h⟩ := oguard h
                    refine Wc.draw hmix [{}, {}, { v := some (.vptr [.int .i64 c149_.gKind, .str c149_.gName, .int .i64 c149_.gNum, .sl (List.map GTerm.c c149_.gKids)]) }, {}, { r := some (.v (.str d150_) []) }, {}, {}, {}, {}, {}, {}, {}, { v := some (.vptr [.int .i64 c151_.gKind, .str c151_.gName, .int .i64 c151_.gNum, .sl (List.map GTerm.c c151_.gKids)]) }, {}, { r := some (.v (.str d152_) []) }] [] [2] [] [] ⟨[(2, (.v (.str (((((((bs [40]) ++ d150_) ++ (bs [32])) ++ d148_) ++ (bs [32])) ++ d152_) ++ (bs [41]))), []))], [], []⟩ _ (by kernel_rfl) (fun X => by kernel_rfl) (.cons (at_obl (c := GTerm.c) (GTerm.c_eq c149_) GTerm.c_len h265) (.cons (len_ok 4 [.int .i64 c149_.gKind, .str c149_.gName, .int .i64 c149_.gNum, .sl (List.map GTerm.c c149_.gKids)]) (.cons (ih_pspec_l07Write h266) (.cons h267 (.cons h268 (.cons h269 (.cons h270 (.cons (at_obl (c := GTerm.c) (GTerm.c_eq c151_) GTerm.c_len h271) (.cons (len_ok 4 [.int .i64 c151_.gKind, .str c151_.gName, .int .i64 c151_.gNum, .sl (List.map GTerm.c c151_.gKids)]) (.cons (ih_pspec_l07Write h272) (.cons h273 (.cons h274 .nil)))))))))))) ?_
                    refine Wc.ret ?_
                    obtain rfl := Option.some.inj h
                    exact ⟨.inl rfl, by kernel_rfl, by kernel_rfl⟩
                · refine Wc.condF h263 (by kernel_rfl) ?_
                  refine Wc.fix (st' := ⟨[(1, (.ptr 1 0, []))], [(1, .cells [.int .i64 c136_.gKind, .str c136_.gName, .int .i64 c136_.gNum, .sl (List.map GTerm.c c136_.gKids)] [])], []⟩) [] [1] [1] [] (by kernel_rfl) ?_
                  refine Wc.skip ?_
                  refine Wc.seq ?_
                  obtain ⟨d153_, h276, h⟩ := obind h
                  obtain ⟨h277, h⟩ := oguard h
                  refine Wc.region [{}, {}, { r := some (.v (.str d153_) []) }] [] [1, 6] [1] [] ⟨[(1, (.ptr 1 0, [])), (6, (.v (.str (d153_ ++ (bs [40]))), []))], [(1, .cells [.int .i64 c136_.gKind, .str c136_.gName, .int .i64 c136_.gNum, .sl (List.map GTerm.c c136_.gKids)] [])], []⟩ _ (by kernel_rfl) (.cons (cspec_AtomText h276) (.cons h277 .nil)) ?_
                  refine Wc.seq ?_
                  refine Wc.seq ?_
                  refine Wc.region [] [] [1, 6, 7] [1] [] ⟨[(1, (.ptr 1 0, [])), (6, (.v (.str (d153_ ++ (bs [40]))), [])), (7, (.v (.int .i64 0), []))], [(1, .cells [.int .i64 c136_.gKind, .str c136_.gName, .int .i64 c136_.gNum, .sl (List.map GTerm.c c136_.gKids)] [])], []⟩ _ (by kernel_rfl) .nil ?_
                  obtain ⟨out3, h278, h⟩ := obind h
                  refine Wc.lastJ (fun st => ∃ (d156_ : ByteArray), out3 = .done d156_ ∧ st = ⟨[(6, (.v (.str d156_), []))], [], []⟩) ?_ ?_
                  · refine Wc.block ?_
                    refine Wc.loop (fun m st => ∃ (d154_ : ByteArray) (b155_ : Int), st = ⟨[(1, (.ptr 1 0, [])), (6, (.v (.str d154_), [])), (7, (.v (.int .i64 b155_), []))], [(1, .cells [.int .i64 c136_.gKind, .str c136_.gName, .int .i64 c136_.gNum, .sl (List.map GTerm.c c136_.gKids)] [])], []⟩ ∧ pspec_l07Write_L3 k (pspec_l07Row k) (pspec_l07Write k) c136_ m d154_ b155_ = some out3) ?_ k ⟨_, _, rfl, h278⟩
                    rintro m st ⟨d154_, b155_, rfl, h278⟩
                    cases m with
                    | zero => exact (onone h278).elim
                    | succ m =>
                      refine Wc.seq ?_
                      refine Wc.seq ?_
                      refine Wc.region [{}, {}, {}, { v := some (.int .i64 (c136_.gKids.length : Int)) }] [] [1, 6, 7, 93] [1] [] ⟨[(1, (.ptr 1 0, [])), (6, (.v (.str d154_), [])), (7, (.v (.int .i64 b155_), [])), (93, (.v (.bool (decide (b155_ < (c136_.gKids.length : Int)))), []))], [(1, .cells [.int .i64 c136_.gKind, .str c136_.gName, .int .i64 c136_.gNum, .sl (List.map GTerm.c c136_.gKids)] [])], []⟩ _ (by kernel_rfl) (.cons (len_obl GTerm.c c136_.gKids) .nil) ?_
                      rcases oif h278 with ⟨h279, h278⟩ | ⟨h279, h278⟩
                      · refine Wc.condT h279 (by kernel_rfl) ?_
                        refine Wc.fix (st' := ⟨[(1, (.ptr 1 0, [])), (6, (.v (.str d154_), [])), (7, (.v (.int .i64 b155_), []))], [(1, .cells [.int .i64 c136_.gKind, .str c136_.gName, .int .i64 c136_.gNum, .sl (List.map GTerm.c c136_.gKids)] [])], []⟩) [] [1, 6, 7] [1] [] (by kernel_rfl) ?_
                        refine Wc.skip ?_
                        refine Wc.seq ?_
                        refine Wc.block ?_
                        refine Wc.seqJ (fun st => ∃ (d157_ : ByteArray), st = ⟨[(1, (.ptr 1 0, [])), (6, (.v (.str d157_), [])), (7, (.v (.int .i64 b155_), []))], [(1, .cells [.int .i64 c136_.gKind, .str c136_.gName, .int .i64 c136_.gNum, .sl (List.map GTerm.c c136_.gKids)] [])], []⟩ ∧ pspec_l07Write_J4 k (pspec_l07Row k) (pspec_l07Write k) (pspec_l07Write_L3 k (pspec_l07Row k) (pspec_l07Write k) c136_ m) c136_ b155_ d157_ = some out3) ?_ ?_
                        · refine Wc.seq ?_
                          refine Wc.region [] [] [1, 6, 7, 97] [1] [] ⟨[(1, (.ptr 1 0, [])), (6, (.v (.str d154_), [])), (7, (.v (.int .i64 b155_), [])), (97, (.v (.bool (decide (b155_ > 0))), []))], [(1, .cells [.int .i64 c136_.gKind, .str c136_.gName, .int .i64 c136_.gNum, .sl (List.map GTerm.c c136_.gKids)] [])], []⟩ _ (by kernel_rfl) .nil ?_
                          rcases oif h278 with ⟨h283, h278⟩ | ⟨h283, h278⟩
                          · refine Wc.condT h283 (by kernel_rfl) ?_
                            obtain ⟨h284, h278⟩ := oguard h278
                            refine Wc.region [] [] [1, 6, 7] [1] [] ⟨[(1, (.ptr 1 0, [])), (6, (.v (.str (d154_ ++ (bs [44]))), [])), (7, (.v (.int .i64 b155_), []))], [(1, .cells [.int .i64 c136_.gKind, .str c136_.gName, .int .i64 c136_.gNum, .sl (List.map GTerm.c c136_.gKids)] [])], []⟩ _ (by kernel_rfl) (.cons h284 .nil) ?_
                            exact ⟨_, rfl, h278⟩
                          · refine Wc.condF h283 (by kernel_rfl) ?_
                            refine Wc.fix (st' := ⟨[(1, (.ptr 1 0, [])), (6, (.v (.str d154_), [])), (7, (.v (.int .i64 b155_), []))], [(1, .cells [.int .i64 c136_.gKind, .str c136_.gName, .int .i64 c136_.gNum, .sl (List.map GTerm.c c136_.gKids)] [])], []⟩) [] [1, 6, 7] [1] [] (by kernel_rfl) ?_
                            refine Wc.skip ?_
                            exact ⟨_, rfl, h278⟩
                        · rintro st ⟨d157_, rfl, h278⟩
                          obtain ⟨c158_, h280, h278⟩ := obind h278
                          obtain ⟨d159_, h281, h278⟩ := obind h278
                          obtain ⟨h282, h278⟩ := oguard h278
                          refine Wc.region [{}, {}, {}, {}, { v := some (.vptr [.int .i64 c158_.gKind, .str c158_.gName, .int .i64 c158_.gNum, .sl (List.map GTerm.c c158_.gKids)]) }, {}, { r := some (.v (.str d159_) []) }] [] [1, 6, 7] [1] [] ⟨[(1, (.ptr 1 0, [])), (6, (.v (.str (d157_ ++ d159_)), [])), (7, (.v (.int .i64 b155_), []))], [(1, .cells [.int .i64 c136_.gKind, .str c136_.gName, .int .i64 c136_.gNum, .sl (List.map GTerm.c c136_.gKids)] [])], []⟩ _ (by kernel_rfl) (.cons (at_obl (c := GTerm.c) (GTerm.c_eq c158_) GTerm.c_len h280) (.cons (len_ok 4 [.int .i64 c158_.gKind, .str c158_.gName, .int .i64 c158_.gNum, .sl (List.map GTerm.c c158_.gKids)]) (.cons (ih_pspec_l07Write h281) (.cons h282 .nil)))) ?_
                          refine Wc.region [] [] [1, 6, 7] [1] [] ⟨[(1, (.ptr 1 0, [])), (6, (.v (.str (d157_ ++ d159_)), [])), (7, (.v (.int .i64 (wr.i64 (b155_ + 1))), []))], [(1, .cells [.int .i64 c136_.gKind, .str c136_.gName, .int .i64 c136_.gNum, .sl (List.map GTerm.c c136_.gKids)] [])], []⟩ _ (by kernel_rfl) .nil ?_
                          exact ⟨_, Nat.lt_succ_self _, _, _, rfl, h278⟩
                      · refine Wc.condF h279 (by kernel_rfl) ?_
                        refine Wc.fix (st' := ⟨[(6, (.v (.str d154_), []))], [], []⟩) [] [6] [] [] (by kernel_rfl) ?_
                        refine Wc.exit ?_
                        obtain rfl := Option.some.inj h278
                        exact ⟨_, rfl, rfl⟩
                  · rintro st ⟨d156_, rfl, rfl⟩
                    refine Wc.seq ?_
                    obtain ⟨h285, h⟩ := oguard h
                    refine Wc.region [] [] [2] [] [] ⟨[(2, (.v (.str (d156_ ++ (bs [41]))), []))], [], []⟩ _ (by kernel_rfl) (.cons h285 .nil) ?_
                    refine Wc.ret ?_
                    obtain rfl := Option.some.inj h
                    exact ⟨.inl rfl, by kernel_rfl, by kernel_rfl⟩
theorem cspec_l07Row {k : Nat} {c121_ : GTerm} {r : ByteArray} (h : pspec_l07Row k c121_ = some r) : FnO Tryd.prog 22 [.v (.agg [.int .i64 c121_.gKind, .str c121_.gName, .int .i64 c121_.gNum, .sl (List.map GTerm.c c121_.gKids)]) []] (.v (.str r) []) [] := (all_pspec_l07Row k).1 h
theorem cspec_l07Write {k : Nat} {c136_ : GTerm} {r : ByteArray} (h : pspec_l07Write k c136_ = some r) : FnO Tryd.prog 11 [.v (.agg [.int .i64 c136_.gKind, .str c136_.gName, .int .i64 c136_.gNum, .sl (List.map GTerm.c c136_.gKids)]) []] (.v (.str r) []) [] := (all_pspec_l07Row k).2 h
end Go.Proofs.YtmfimfgdbmjkkaaDoor

/- What the functions do, part 1. -/
import Derived.Test.YtbfkmgenokhkgaaTy
set_option linter.unusedVariables false
set_option linter.unusedSimpArgs false
namespace Go.Proofs.Ytbfkmgenokhkgaa
open Go.RowKit Go.Bv
def plaws_szTermS_L1 (k : Nat) (rlaws_szTerm : GTerm → Int → Option Int) (rlaws_szTermS : (List GTerm) → Int → Option Int) (a4_ : List GTerm) : Nat → Int → Int → Option (Out Int Int)
  | 0, _, _ => none
  | m + 1, b6_, b7_ =>
    if (decide (b7_ < (a4_.length : Int))) = true then
      (at' a4_ b7_).bind fun c9_ =>
      (rlaws_szTerm c9_ b6_).bind fun b10_ =>
      if (decide (b10_ < 0)) = true then
        some (.ret (-1))
      else
        plaws_szTermS_L1 k rlaws_szTerm rlaws_szTermS a4_ m b10_ (wr.i64 (b7_ + 1))
    else
      some (.done b6_)
mutual
/-- laws.szTerm -/
def plaws_szTerm : Nat → GTerm → Int → Option Int
  | 0, _, _ => none
  | k + 1, c1_, b2_ =>
    if (decide ((wr.i64 (b2_ - (c1_.gName.size : Int))) < 0)) = true then
      some (-1)
    else
      (plaws_szTermS k c1_.gKids (wr.i64 (b2_ - (c1_.gName.size : Int)))).bind fun b3_ =>
      if (decide (b3_ < 0)) = true then
        some (-1)
      else
        some b3_
/-- laws.szTermS -/
def plaws_szTermS : Nat → (List GTerm) → Int → Option Int
  | 0, _, _ => none
  | k + 1, a4_, b5_ =>
    if (decide ((wr.i64 (b5_ - (a4_.length : Int))) < 0)) = true then
      some (-1)
    else
      (plaws_szTermS_L1 k (plaws_szTerm k) (plaws_szTermS k) a4_ k (wr.i64 (b5_ - (a4_.length : Int))) 0).bind fun out1 => match out1 with
      | .ret r => some r
      | .done b8_ =>
        some b8_
end
theorem all_plaws_szTerm : ∀ k : Nat, (∀ {c1_ : GTerm} {b2_ : Int} {r : Int}, plaws_szTerm k c1_ b2_ = some r → FnO Try.prog 16 [.v (.agg [.int .i64 c1_.gKind, .str c1_.gName, .int .i64 c1_.gNum, .sl (List.map GTerm.c c1_.gKids)]) [], .v (.int .i64 b2_) []] (.v (.int .i64 r) []) []) ∧
    (∀ {a4_ : List GTerm} {b5_ : Int} {r : Int}, plaws_szTermS k a4_ b5_ = some r → FnO Try.prog 52 [.v (.sl (List.map GTerm.c a4_)) [], .v (.int .i64 b5_) []] (.v (.int .i64 r) []) []) := by
  intro k
  induction k with
  | zero =>
    refine ⟨?_, ?_⟩
    · intro c1_ b2_ r h
      exact (onone (by rw [plaws_szTerm] at h; exact h)).elim
    · intro a4_ b5_ r h
      exact (onone (by rw [plaws_szTermS] at h; exact h)).elim
  | succ k ih =>
    obtain ⟨ih_plaws_szTerm, ih_plaws_szTermS⟩ := ih
    refine ⟨?_, ?_⟩
    · intro c1_ b2_ r h
      rw [plaws_szTerm] at h
      refine FnO.of Try.func16 (rfl : Try.f16.body = some _) (Nat.le_of_ble_eq_true (by kernel_rfl)) (Nat.le_of_ble_eq_true (by kernel_rfl)) ?_
      intro w0 X0 Fin pv0 pb
      refine Wc.seq ?_
      refine Wc.region [] [] [1, 2] [2] [] ⟨[(1, (.v (.int .i64 b2_), [])), (2, (.ptr 2 0, []))], [(2, .cells [.int .i64 c1_.gKind, .str c1_.gName, .int .i64 c1_.gNum, .sl (List.map GTerm.c c1_.gKids)] [])], []⟩ _ (by kernel_rfl) .nil ?_
      refine Wc.seq ?_
      refine Wc.region [] [] [1, 2] [2] [] ⟨[(1, (.v (.int .i64 (wr.i64 (b2_ - (c1_.gName.size : Int)))), [])), (2, (.ptr 2 0, []))], [(2, .cells [.int .i64 c1_.gKind, .str c1_.gName, .int .i64 c1_.gNum, .sl (List.map GTerm.c c1_.gKids)] [])], []⟩ _ (by kernel_rfl) .nil ?_
      refine Wc.seq ?_
      refine Wc.seq ?_
      refine Wc.region [] [] [1, 2, 11] [2] [] ⟨[(1, (.v (.int .i64 (wr.i64 (b2_ - (c1_.gName.size : Int)))), [])), (2, (.ptr 2 0, [])), (11, (.v (.bool (decide ((wr.i64 (b2_ - (c1_.gName.size : Int))) < 0))), []))], [(2, .cells [.int .i64 c1_.gKind, .str c1_.gName, .int .i64 c1_.gNum, .sl (List.map GTerm.c c1_.gKids)] [])], []⟩ _ (by kernel_rfl) .nil ?_
      rcases oif h with ⟨h1, h⟩ | ⟨h1, h⟩
      · refine Wc.condT h1 (by kernel_rfl) ?_
        refine Wc.seq ?_
        refine Wc.region [] [] [4] [] [] ⟨[(4, (.v (.int .i64 (-1)), []))], [], []⟩ _ (by kernel_rfl) .nil ?_
        refine Wc.ret ?_
        obtain rfl := Option.some.inj h
        exact ⟨.inl rfl, by kernel_rfl, by kernel_rfl⟩
      · refine Wc.condF h1 (by kernel_rfl) ?_
        refine Wc.fix (st' := ⟨[(1, (.v (.int .i64 (wr.i64 (b2_ - (c1_.gName.size : Int)))), [])), (2, (.ptr 2 0, []))], [(2, .cells [.int .i64 c1_.gKind, .str c1_.gName, .int .i64 c1_.gNum, .sl (List.map GTerm.c c1_.gKids)] [])], []⟩) [] [1, 2] [2] [] (by kernel_rfl) ?_
        refine Wc.skip ?_
        refine Wc.seq ?_
        obtain ⟨b3_, h2, h⟩ := obind h
        refine Wc.region [{}, {}, {}, { r := some (.v (.int .i64 b3_) []) }] [] [1] [] [] ⟨[(1, (.v (.int .i64 b3_), []))], [], []⟩ _ (by kernel_rfl) (.cons (ih_plaws_szTermS h2) .nil) ?_
        refine Wc.seq ?_
        refine Wc.seq ?_
        refine Wc.region [] [] [1, 17] [] [] ⟨[(1, (.v (.int .i64 b3_), [])), (17, (.v (.bool (decide (b3_ < 0))), []))], [], []⟩ _ (by kernel_rfl) .nil ?_
        rcases oif h with ⟨h3, h⟩ | ⟨h3, h⟩
        · refine Wc.condT h3 (by kernel_rfl) ?_
          refine Wc.seq ?_
          refine Wc.region [] [] [4] [] [] ⟨[(4, (.v (.int .i64 (-1)), []))], [], []⟩ _ (by kernel_rfl) .nil ?_
          refine Wc.ret ?_
          obtain rfl := Option.some.inj h
          exact ⟨.inl rfl, by kernel_rfl, by kernel_rfl⟩
        · refine Wc.condF h3 (by kernel_rfl) ?_
          refine Wc.fix (st' := ⟨[(1, (.v (.int .i64 b3_), []))], [], []⟩) [] [1] [] [] (by kernel_rfl) ?_
          refine Wc.skip ?_
          refine Wc.seq ?_
          refine Wc.region [] [] [4] [] [] ⟨[(4, (.v (.int .i64 b3_), []))], [], []⟩ _ (by kernel_rfl) .nil ?_
          refine Wc.ret ?_
          obtain rfl := Option.some.inj h
          exact ⟨.inl rfl, by kernel_rfl, by kernel_rfl⟩
    · intro a4_ b5_ r h
      rw [plaws_szTermS] at h
      refine FnO.of Try.func52 (rfl : Try.f52.body = some _) (Nat.le_of_ble_eq_true (by kernel_rfl)) (Nat.le_of_ble_eq_true (by kernel_rfl)) ?_
      intro w0 X0 Fin pv0 pb
      refine Wc.seq ?_
      refine Wc.region [] [] [0, 1] [] [] ⟨[(0, (.v (.sl (List.map GTerm.c a4_)), [])), (1, (.v (.int .i64 b5_), []))], [], []⟩ _ (by kernel_rfl) .nil ?_
      refine Wc.seq ?_
      refine Wc.region [{}, {}, { v := some (.int .i64 (a4_.length : Int)) }] [] [0, 1] [] [] ⟨[(0, (.v (.sl (List.map GTerm.c a4_)), [])), (1, (.v (.int .i64 (wr.i64 (b5_ - (a4_.length : Int)))), []))], [], []⟩ _ (by kernel_rfl) (.cons (len_obl GTerm.c a4_) .nil) ?_
      refine Wc.seq ?_
      refine Wc.seq ?_
      refine Wc.region [] [] [0, 1, 11] [] [] ⟨[(0, (.v (.sl (List.map GTerm.c a4_)), [])), (1, (.v (.int .i64 (wr.i64 (b5_ - (a4_.length : Int)))), [])), (11, (.v (.bool (decide ((wr.i64 (b5_ - (a4_.length : Int))) < 0))), []))], [], []⟩ _ (by kernel_rfl) .nil ?_
      rcases oif h with ⟨h4, h⟩ | ⟨h4, h⟩
      · refine Wc.condT h4 (by kernel_rfl) ?_
        refine Wc.seq ?_
        refine Wc.region [] [] [4] [] [] ⟨[(4, (.v (.int .i64 (-1)), []))], [], []⟩ _ (by kernel_rfl) .nil ?_
        refine Wc.ret ?_
        obtain rfl := Option.some.inj h
        exact ⟨.inl rfl, by kernel_rfl, by kernel_rfl⟩
      · refine Wc.condF h4 (by kernel_rfl) ?_
        refine Wc.fix (st' := ⟨[(0, (.v (.sl (List.map GTerm.c a4_)), [])), (1, (.v (.int .i64 (wr.i64 (b5_ - (a4_.length : Int)))), []))], [], []⟩) [] [0, 1] [] [] (by kernel_rfl) ?_
        refine Wc.skip ?_
        refine Wc.seq ?_
        refine Wc.seq ?_
        refine Wc.region [] [] [0, 1, 5] [] [] ⟨[(0, (.v (.sl (List.map GTerm.c a4_)), [])), (1, (.v (.int .i64 (wr.i64 (b5_ - (a4_.length : Int)))), [])), (5, (.v (.int .i64 0), []))], [], []⟩ _ (by kernel_rfl) .nil ?_
        obtain ⟨out1, h5, h⟩ := obind h
        refine Wc.lastJ (fun st => ∃ (b8_ : Int), out1 = .done b8_ ∧ st = ⟨[(1, (.v (.int .i64 b8_), []))], [], []⟩) ?_ ?_
        · refine Wc.block ?_
          refine Wc.loop (fun m st => ∃ (b6_ : Int) (b7_ : Int), st = ⟨[(0, (.v (.sl (List.map GTerm.c a4_)), [])), (1, (.v (.int .i64 b6_), [])), (5, (.v (.int .i64 b7_), []))], [], []⟩ ∧ plaws_szTermS_L1 k (plaws_szTerm k) (plaws_szTermS k) a4_ m b6_ b7_ = some out1) ?_ k ⟨_, _, rfl, h5⟩
          rintro m st ⟨b6_, b7_, rfl, h5⟩
          cases m with
          | zero => exact (onone h5).elim
          | succ m =>
            refine Wc.seq ?_
            refine Wc.seq ?_
            refine Wc.region [{}, {}, { v := some (.int .i64 (a4_.length : Int)) }] [] [0, 1, 5, 15] [] [] ⟨[(0, (.v (.sl (List.map GTerm.c a4_)), [])), (1, (.v (.int .i64 b6_), [])), (5, (.v (.int .i64 b7_), [])), (15, (.v (.bool (decide (b7_ < (a4_.length : Int)))), []))], [], []⟩ _ (by kernel_rfl) (.cons (len_obl GTerm.c a4_) .nil) ?_
            rcases oif h5 with ⟨h6, h5⟩ | ⟨h6, h5⟩
            · refine Wc.condT h6 (by kernel_rfl) ?_
              refine Wc.fix (st' := ⟨[(0, (.v (.sl (List.map GTerm.c a4_)), [])), (1, (.v (.int .i64 b6_), [])), (5, (.v (.int .i64 b7_), []))], [], []⟩) [] [0, 1, 5] [] [] (by kernel_rfl) ?_
              refine Wc.skip ?_
              refine Wc.seq ?_
              refine Wc.block ?_
              refine Wc.seq ?_
              obtain ⟨c9_, h7, h5⟩ := obind h5
              obtain ⟨b10_, h8, h5⟩ := obind h5
              refine Wc.region [{}, {}, { v := some (.vptr [.int .i64 c9_.gKind, .str c9_.gName, .int .i64 c9_.gNum, .sl (List.map GTerm.c c9_.gKids)]) }, {}, {}, { r := some (.v (.int .i64 b10_) []) }] [] [0, 1, 5] [] [] ⟨[(0, (.v (.sl (List.map GTerm.c a4_)), [])), (1, (.v (.int .i64 b10_), [])), (5, (.v (.int .i64 b7_), []))], [], []⟩ _ (by kernel_rfl) (.cons (at_obl (c := GTerm.c) (GTerm.c_eq c9_) GTerm.c_len h7) (.cons (len_ok 4 [.int .i64 c9_.gKind, .str c9_.gName, .int .i64 c9_.gNum, .sl (List.map GTerm.c c9_.gKids)]) (.cons (ih_plaws_szTerm h8) .nil))) ?_
              refine Wc.seq ?_
              refine Wc.region [] [] [0, 1, 5, 25] [] [] ⟨[(0, (.v (.sl (List.map GTerm.c a4_)), [])), (1, (.v (.int .i64 b10_), [])), (5, (.v (.int .i64 b7_), [])), (25, (.v (.bool (decide (b10_ < 0))), []))], [], []⟩ _ (by kernel_rfl) .nil ?_
              rcases oif h5 with ⟨h9, h5⟩ | ⟨h9, h5⟩
              · refine Wc.condT h9 (by kernel_rfl) ?_
                refine Wc.seq ?_
                refine Wc.region [] [] [4] [] [] ⟨[(4, (.v (.int .i64 (-1)), []))], [], []⟩ _ (by kernel_rfl) .nil ?_
                refine Wc.ret ?_
                obtain rfl := Option.some.inj h5
                obtain rfl := Option.some.inj h
                exact ⟨.inl rfl, by kernel_rfl, by kernel_rfl⟩
              · refine Wc.condF h9 (by kernel_rfl) ?_
                refine Wc.fix (st' := ⟨[(0, (.v (.sl (List.map GTerm.c a4_)), [])), (1, (.v (.int .i64 b10_), [])), (5, (.v (.int .i64 b7_), []))], [], []⟩) [] [0, 1, 5] [] [] (by kernel_rfl) ?_
                refine Wc.skip ?_
                refine Wc.region [] [] [0, 1, 5] [] [] ⟨[(0, (.v (.sl (List.map GTerm.c a4_)), [])), (1, (.v (.int .i64 b10_), [])), (5, (.v (.int .i64 (wr.i64 (b7_ + 1))), []))], [], []⟩ _ (by kernel_rfl) .nil ?_
                exact ⟨_, Nat.lt_succ_self _, _, _, rfl, h5⟩
            · refine Wc.condF h6 (by kernel_rfl) ?_
              refine Wc.fix (st' := ⟨[(1, (.v (.int .i64 b6_), []))], [], []⟩) [] [1] [] [] (by kernel_rfl) ?_
              refine Wc.exit ?_
              obtain rfl := Option.some.inj h5
              exact ⟨_, rfl, rfl⟩
        · rintro st ⟨b8_, rfl, rfl⟩
          refine Wc.seq ?_
          refine Wc.region [] [] [4] [] [] ⟨[(4, (.v (.int .i64 b8_), []))], [], []⟩ _ (by kernel_rfl) .nil ?_
          refine Wc.ret ?_
          obtain rfl := Option.some.inj h
          exact ⟨.inl rfl, by kernel_rfl, by kernel_rfl⟩
theorem claws_szTerm {k : Nat} {c1_ : GTerm} {b2_ : Int} {r : Int} (h : plaws_szTerm k c1_ b2_ = some r) : FnO Try.prog 16 [.v (.agg [.int .i64 c1_.gKind, .str c1_.gName, .int .i64 c1_.gNum, .sl (List.map GTerm.c c1_.gKids)]) [], .v (.int .i64 b2_) []] (.v (.int .i64 r) []) [] := (all_plaws_szTerm k).1 h
theorem claws_szTermS {k : Nat} {a4_ : List GTerm} {b5_ : Int} {r : Int} (h : plaws_szTermS k a4_ b5_ = some r) : FnO Try.prog 52 [.v (.sl (List.map GTerm.c a4_)) [], .v (.int .i64 b5_) []] (.v (.int .i64 r) []) [] := (all_plaws_szTerm k).2 h

def plaws_toTermS_L1 (k : Nat) (rlaws_toTerm : GTerm → Option GTerm) (rlaws_toTermS : (List GTerm) → Option (List GTerm)) (a13_ : List GTerm) : Nat → (List GTerm) → Int → Option (Out (List GTerm) (List GTerm))
  | 0, _, _ => none
  | m + 1, a14_, b15_ =>
    if (decide (b15_ < (a13_.length : Int))) = true then
      (at' a13_ b15_).bind fun c17_ =>
      (rlaws_toTerm c17_).bind fun c18_ =>
      (at' a14_ b15_).bind fun c19_ =>
      plaws_toTermS_L1 k rlaws_toTerm rlaws_toTermS a13_ m (a14_.set ((b15_).toNat) c18_) (wr.i64 (b15_ + 1))
    else
      some (.done a14_)
mutual
/-- laws.toTerm -/
def plaws_toTerm : Nat → GTerm → Option GTerm
  | 0, _ => none
  | k + 1, c11_ =>
    (plaws_toTermS k c11_.gKids).bind fun d12_ =>
    some (GTerm.mk c11_.gKind c11_.gName c11_.gNum d12_)
/-- laws.toTermS -/
def plaws_toTermS : Nat → (List GTerm) → Option (List GTerm)
  | 0, _ => none
  | k + 1, a13_ =>
    if 0 ≤ (a13_.length : Int) ∧ (a13_.length : Int) ≤ 1073741824 then
      (plaws_toTermS_L1 k (plaws_toTerm k) (plaws_toTermS k) a13_ k (List.replicate ((a13_.length : Int)).toNat (GTerm.mk 0 (bs []) 0 [])) 0).bind fun out1 => match out1 with
      | .ret r => some r
      | .done a16_ =>
        some a16_
    else none
end
theorem all_plaws_toTerm : ∀ k : Nat, (∀ {c11_ : GTerm} {r : GTerm}, plaws_toTerm k c11_ = some r → FnO Try.prog 18 [.v (.agg [.int .i64 c11_.gKind, .str c11_.gName, .int .i64 c11_.gNum, .sl (List.map GTerm.c c11_.gKids)]) []] (.v (.agg [.int .i64 r.gKind, .str r.gName, .int .i64 r.gNum, .sl (List.map GTerm.c r.gKids)]) []) []) ∧
    (∀ {a13_ : List GTerm} {r : (List GTerm)}, plaws_toTermS k a13_ = some r → FnO Try.prog 55 [.v (.sl (List.map GTerm.c a13_)) []] (.v (.sl (List.map GTerm.c r)) []) []) := by
  intro k
  induction k with
  | zero =>
    refine ⟨?_, ?_⟩
    · intro c11_ r h
      exact (onone (by rw [plaws_toTerm] at h; exact h)).elim
    · intro a13_ r h
      exact (onone (by rw [plaws_toTermS] at h; exact h)).elim
  | succ k ih =>
    obtain ⟨ih_plaws_toTerm, ih_plaws_toTermS⟩ := ih
    refine ⟨?_, ?_⟩
    · intro c11_ r h
      rw [plaws_toTerm] at h
      refine FnO.of Try.func18 (rfl : Try.f18.body = some _) (Nat.le_of_ble_eq_true (by kernel_rfl)) (Nat.le_of_ble_eq_true (by kernel_rfl)) ?_
      intro w0 X0 Fin pv0 pb
      refine Wc.seq ?_
      refine Wc.region [] [] [1, 2] [1, 2] [] ⟨[(1, (.ptr 1 0, [])), (2, (.ptr 2 0, []))], [(1, .cells [.int .i64 c11_.gKind, .str c11_.gName, .int .i64 c11_.gNum, .sl (List.map GTerm.c c11_.gKids)] []), (2, .cells [.int .i64 0, .str (bs []), .int .i64 0, .sl (List.map GTerm.c [])] [(3, .app 37)])], []⟩ _ (by kernel_rfl) .nil ?_
      refine Wc.seq ?_
      refine Wc.region [] [] [1, 2, 3] [1, 2, 3] [] ⟨[(1, (.ptr 1 0, [])), (2, (.ptr 2 0, [])), (3, (.ptr 3 0, []))], [(1, .cells [.int .i64 c11_.gKind, .str c11_.gName, .int .i64 c11_.gNum, .sl (List.map GTerm.c c11_.gKids)] []), (2, .cells [.int .i64 0, .str (bs []), .int .i64 0, .sl (List.map GTerm.c [])] [(3, .app 37)]), (3, .cells [.int .i64 0, .str (bs []), .int .i64 0, .sl (List.map GTerm.c [])] [(3, .app 37)])], []⟩ _ (by kernel_rfl) .nil ?_
      refine Wc.seq ?_
      refine Wc.region [] [] [1, 2, 3] [1, 2, 3] [] ⟨[(1, (.ptr 1 0, [])), (2, (.ptr 2 0, [])), (3, (.ptr 3 0, []))], [(1, .cells [.int .i64 c11_.gKind, .str c11_.gName, .int .i64 c11_.gNum, .sl (List.map GTerm.c c11_.gKids)] []), (2, .cells [.int .i64 0, .str (bs []), .int .i64 0, .sl (List.map GTerm.c [])] [(3, .app 37)]), (3, .cells [.int .i64 c11_.gKind, .str (bs []), .int .i64 0, .sl (List.map GTerm.c [])] [(3, .app 37)])], []⟩ _ (by kernel_rfl) .nil ?_
      refine Wc.seq ?_
      refine Wc.region [] [] [1, 2, 3] [1, 2, 3] [] ⟨[(1, (.ptr 1 0, [])), (2, (.ptr 2 0, [])), (3, (.ptr 3 0, []))], [(1, .cells [.int .i64 c11_.gKind, .str c11_.gName, .int .i64 c11_.gNum, .sl (List.map GTerm.c c11_.gKids)] []), (2, .cells [.int .i64 0, .str (bs []), .int .i64 0, .sl (List.map GTerm.c [])] [(3, .app 37)]), (3, .cells [.int .i64 c11_.gKind, .str c11_.gName, .int .i64 0, .sl (List.map GTerm.c [])] [(3, .app 37)])], []⟩ _ (by kernel_rfl) .nil ?_
      refine Wc.seq ?_
      refine Wc.region [] [] [1, 2, 3] [1, 2, 3] [] ⟨[(1, (.ptr 1 0, [])), (2, (.ptr 2 0, [])), (3, (.ptr 3 0, []))], [(1, .cells [.int .i64 c11_.gKind, .str c11_.gName, .int .i64 c11_.gNum, .sl (List.map GTerm.c c11_.gKids)] []), (2, .cells [.int .i64 0, .str (bs []), .int .i64 0, .sl (List.map GTerm.c [])] [(3, .app 37)]), (3, .cells [.int .i64 c11_.gKind, .str c11_.gName, .int .i64 c11_.gNum, .sl (List.map GTerm.c [])] [(3, .app 37)])], []⟩ _ (by kernel_rfl) .nil ?_
      refine Wc.seq ?_
      obtain ⟨d12_, h10, h⟩ := obind h
      refine Wc.region [{}, {}, { r := some (.v (.sl (List.map GTerm.c d12_)) []) }] [] [2, 3] [2, 3] [] ⟨[(2, (.ptr 2 0, [])), (3, (.ptr 3 0, []))], [(2, .cells [.int .i64 0, .str (bs []), .int .i64 0, .sl (List.map GTerm.c [])] [(3, .app 37)]), (3, .cells [.int .i64 c11_.gKind, .str c11_.gName, .int .i64 c11_.gNum, .sl (List.map GTerm.c d12_)] [])], []⟩ _ (by kernel_rfl) (.cons (ih_plaws_toTermS h10) .nil) ?_
      refine Wc.seq ?_
      refine Wc.region [] [] [2] [2] [] ⟨[(2, (.ptr 2 0, []))], [(2, .cells [.int .i64 c11_.gKind, .str c11_.gName, .int .i64 c11_.gNum, .sl (List.map GTerm.c d12_)] [])], []⟩ _ (by kernel_rfl) .nil ?_
      refine Wc.ret ?_
      obtain rfl := Option.some.inj h
      exact ⟨.inl rfl, by kernel_rfl, by kernel_rfl⟩
    · intro a13_ r h
      rw [plaws_toTermS] at h
      refine FnO.of Try.func55 (rfl : Try.f55.body = some _) (Nat.le_of_ble_eq_true (by kernel_rfl)) (Nat.le_of_ble_eq_true (by kernel_rfl)) ?_
      intro w0 X0 Fin pv0 pb
      refine Wc.seq ?_
      refine Wc.region [] [] [0] [] [] ⟨[(0, (.v (.sl (List.map GTerm.c a13_)), []))], [], []⟩ _ (by kernel_rfl) .nil ?_
      refine Wc.seq ?_
      obtain ⟨h11, h⟩ := oguard h
      refine Wc.region [{}, { v := some (.int .i64 (a13_.length : Int)) }, { c := some (List.map GTerm.c (List.replicate ((a13_.length : Int)).toNat (GTerm.mk 0 (bs []) 0 []))) }, { tk := [7], fx := [.ag (.t 7 0)] }] [] [0, 3] [] [] ⟨[(0, (.v (.sl (List.map GTerm.c a13_)), [])), (3, (.v (.slx), [(0, .ex 37 false (List.map GTerm.c (List.replicate ((a13_.length : Int)).toNat (GTerm.mk 0 (bs []) 0 []))))]))], [], []⟩ _ (by kernel_rfl) (.cons (len_obl GTerm.c a13_) (.cons (rep_re (c := GTerm.c) (z := (GTerm.mk 0 (bs []) 0 [])) (GTerm.c_eq (GTerm.mk 0 (bs []) 0 [])) ((a13_.length : Int)).toNat) (.cons (ms_obl h11) .nil))) ?_
      refine Wc.seq ?_
      refine Wc.seq ?_
      refine Wc.region [] [] [0, 3, 4] [] [] ⟨[(0, (.v (.sl (List.map GTerm.c a13_)), [])), (3, (.v (.slx), [(0, .ex 37 false (List.map GTerm.c (List.replicate ((a13_.length : Int)).toNat (GTerm.mk 0 (bs []) 0 []))))])), (4, (.v (.int .i64 0), []))], [], []⟩ _ (by kernel_rfl) .nil ?_
      obtain ⟨out1, h12, h⟩ := obind h
      refine Wc.lastJ (fun st => ∃ (a16_ : List GTerm), out1 = .done a16_ ∧ st = ⟨[(3, (.v (.slx), [(0, .ex 37 false (List.map GTerm.c a16_))]))], [], []⟩) ?_ ?_
      · refine Wc.block ?_
        refine Wc.loop (fun m st => ∃ (a14_ : List GTerm) (b15_ : Int), st = ⟨[(0, (.v (.sl (List.map GTerm.c a13_)), [])), (3, (.v (.slx), [(0, .ex 37 false (List.map GTerm.c a14_))])), (4, (.v (.int .i64 b15_), []))], [], []⟩ ∧ plaws_toTermS_L1 k (plaws_toTerm k) (plaws_toTermS k) a13_ m a14_ b15_ = some out1) ?_ k ⟨_, _, rfl, h12⟩
        rintro m st ⟨a14_, b15_, rfl, h12⟩
        cases m with
        | zero => exact (onone h12).elim
        | succ m =>
          refine Wc.seq ?_
          refine Wc.seq ?_
          refine Wc.region [{}, {}, { v := some (.int .i64 (a13_.length : Int)) }] [] [0, 3, 4, 11] [] [] ⟨[(0, (.v (.sl (List.map GTerm.c a13_)), [])), (3, (.v (.slx), [(0, .ex 37 false (List.map GTerm.c a14_))])), (4, (.v (.int .i64 b15_), [])), (11, (.v (.bool (decide (b15_ < (a13_.length : Int)))), []))], [], []⟩ _ (by kernel_rfl) (.cons (len_obl GTerm.c a13_) .nil) ?_
          rcases oif h12 with ⟨h13, h12⟩ | ⟨h13, h12⟩
          · refine Wc.condT h13 (by kernel_rfl) ?_
            refine Wc.fix (st' := ⟨[(0, (.v (.sl (List.map GTerm.c a13_)), [])), (3, (.v (.slx), [(0, .ex 37 false (List.map GTerm.c a14_))])), (4, (.v (.int .i64 b15_), []))], [], []⟩) [] [0, 3, 4] [] [] (by kernel_rfl) ?_
            refine Wc.skip ?_
            refine Wc.seq ?_
            refine Wc.block ?_
            obtain ⟨c17_, h14, h12⟩ := obind h12
            obtain ⟨c18_, h15, h12⟩ := obind h12
            obtain ⟨c19_, h16, h12⟩ := obind h12
            refine Wc.region [{}, {}, {}, {}, { v := some (.vptr [.int .i64 c17_.gKind, .str c17_.gName, .int .i64 c17_.gNum, .sl (List.map GTerm.c c17_.gKids)]) }, {}, { r := some (.v (.agg [.int .i64 c18_.gKind, .str c18_.gName, .int .i64 c18_.gNum, .sl (List.map GTerm.c c18_.gKids)]) []) }, {}, { c := some (List.map GTerm.c (a14_.set ((b15_).toNat) c18_)) }] [] [0, 3, 4] [] [] ⟨[(0, (.v (.sl (List.map GTerm.c a13_)), [])), (3, (.v (.slx), [(0, .ex 37 false (List.map GTerm.c (a14_.set ((b15_).toNat) c18_)))])), (4, (.v (.int .i64 b15_), []))], [], []⟩ _ (by kernel_rfl) (.cons (at_obl (c := GTerm.c) (GTerm.c_eq c17_) GTerm.c_len h14) (.cons (len_ok 4 [.int .i64 c17_.gKind, .str c17_.gName, .int .i64 c17_.gNum, .sl (List.map GTerm.c c17_.gKids)]) (.cons (ih_plaws_toTerm h15) (.cons (ix_obl (c := GTerm.c) GTerm.c_len h16) (.cons (mod_obl (off := 0) (new := [.int .i64 c18_.gKind, .str c18_.gName, .int .i64 c18_.gNum, .sl (List.map GTerm.c c18_.gKids)]) (c := GTerm.c) (GTerm.c_eq c19_) (GTerm.c_eq c18_) (at'_spec h16).2 rfl) (.cons (st_obl (sz := 4) (off := 0) (s := 4) (c := GTerm.c) (GTerm.c_eq c19_) (at'_spec h16).2 rfl (Nat.le_of_ble_eq_true rfl)) .nil)))))) ?_
            refine Wc.region [] [] [0, 3, 4] [] [] ⟨[(0, (.v (.sl (List.map GTerm.c a13_)), [])), (3, (.v (.slx), [(0, .ex 37 false (List.map GTerm.c (a14_.set ((b15_).toNat) c18_)))])), (4, (.v (.int .i64 (wr.i64 (b15_ + 1))), []))], [], []⟩ _ (by kernel_rfl) .nil ?_
            exact ⟨_, Nat.lt_succ_self _, _, _, rfl, h12⟩
          · refine Wc.condF h13 (by kernel_rfl) ?_
            refine Wc.fix (st' := ⟨[(3, (.v (.slx), [(0, .ex 37 false (List.map GTerm.c a14_))]))], [], []⟩) [] [3] [] [] (by kernel_rfl) ?_
            refine Wc.exit ?_
            obtain rfl := Option.some.inj h12
            exact ⟨_, rfl, rfl⟩
      · rintro st ⟨a16_, rfl, rfl⟩
        refine Wc.seq ?_
        refine Wc.region [{ tk := [3] }, { tk := [22] }] [] [2] [] [] ⟨[(2, (.v (.slx), [(0, .ex 37 false (List.map GTerm.c a16_))]))], [], []⟩ _ (by kernel_rfl) .nil ?_
        refine Wc.fix (st' := ⟨[(2, (.v (.sl (List.map GTerm.c a16_)), []))], [], []⟩) [.sh (.t 2 0)] [2] [] [] (by kernel_rfl) ?_
        refine Wc.ret ?_
        obtain rfl := Option.some.inj h
        exact ⟨.inl rfl, by kernel_rfl, by kernel_rfl⟩
theorem claws_toTerm {k : Nat} {c11_ : GTerm} {r : GTerm} (h : plaws_toTerm k c11_ = some r) : FnO Try.prog 18 [.v (.agg [.int .i64 c11_.gKind, .str c11_.gName, .int .i64 c11_.gNum, .sl (List.map GTerm.c c11_.gKids)]) []] (.v (.agg [.int .i64 r.gKind, .str r.gName, .int .i64 r.gNum, .sl (List.map GTerm.c r.gKids)]) []) [] := (all_plaws_toTerm k).1 h
theorem claws_toTermS {k : Nat} {a13_ : List GTerm} {r : (List GTerm)} (h : plaws_toTermS k a13_ = some r) : FnO Try.prog 55 [.v (.sl (List.map GTerm.c a13_)) []] (.v (.sl (List.map GTerm.c r)) []) [] := (all_plaws_toTerm k).2 h

def plaws_eqTermS_L1 (k : Nat) (rlaws_eqTerm : GTerm → GTerm → Option Bool) (rlaws_eqTermS : (List GTerm) → (List GTerm) → Option Bool) (a23_ : List GTerm) (a24_ : List GTerm) : Nat → Int → Option (Out Bool Unit)
  | 0, _ => none
  | m + 1, b25_ =>
    if (decide (b25_ < (a23_.length : Int))) = true then
      (at' a23_ b25_).bind fun c26_ =>
      (at' a24_ b25_).bind fun c27_ =>
      (rlaws_eqTerm c26_ c27_).bind fun e28_ =>
      if (!e28_) = true then
        some (.ret false)
      else
        plaws_eqTermS_L1 k rlaws_eqTerm rlaws_eqTermS a23_ a24_ m (wr.i64 (b25_ + 1))
    else
      some (.done ())
mutual
/-- laws.eqTerm -/
def plaws_eqTerm : Nat → GTerm → GTerm → Option Bool
  | 0, _, _ => none
  | k + 1, c20_, c21_ =>
    if (c20_.gKind != c21_.gKind) = true then
      some false
    else
      if (!(sEq c20_.gName c21_.gName)) = true then
        some false
      else
        if (c20_.gNum != c21_.gNum) = true then
          some false
        else
          (plaws_eqTermS k c20_.gKids c21_.gKids).bind fun e22_ =>
          if (!e22_) = true then
            some false
          else
            some true
/-- laws.eqTermS -/
def plaws_eqTermS : Nat → (List GTerm) → (List GTerm) → Option Bool
  | 0, _, _ => none
  | k + 1, a23_, a24_ =>
    if ((a23_.length : Int) != (a24_.length : Int)) = true then
      some false
    else
      (plaws_eqTermS_L1 k (plaws_eqTerm k) (plaws_eqTermS k) a23_ a24_ k 0).bind fun out1 => match out1 with
      | .ret r => some r
      | .done () =>
        some true
end
theorem all_plaws_eqTerm : ∀ k : Nat, (∀ {c20_ : GTerm} {c21_ : GTerm} {r : Bool}, plaws_eqTerm k c20_ c21_ = some r → FnO Try.prog 20 [.v (.agg [.int .i64 c20_.gKind, .str c20_.gName, .int .i64 c20_.gNum, .sl (List.map GTerm.c c20_.gKids)]) [], .v (.agg [.int .i64 c21_.gKind, .str c21_.gName, .int .i64 c21_.gNum, .sl (List.map GTerm.c c21_.gKids)]) []] (.v (.bool r) []) []) ∧
    (∀ {a23_ : List GTerm} {a24_ : List GTerm} {r : Bool}, plaws_eqTermS k a23_ a24_ = some r → FnO Try.prog 60 [.v (.sl (List.map GTerm.c a23_)) [], .v (.sl (List.map GTerm.c a24_)) []] (.v (.bool r) []) []) := by
  intro k
  induction k with
  | zero =>
    refine ⟨?_, ?_⟩
    · intro c20_ c21_ r h
      exact (onone (by rw [plaws_eqTerm] at h; exact h)).elim
    · intro a23_ a24_ r h
      exact (onone (by rw [plaws_eqTermS] at h; exact h)).elim
  | succ k ih =>
    obtain ⟨ih_plaws_eqTerm, ih_plaws_eqTermS⟩ := ih
    refine ⟨?_, ?_⟩
    · intro c20_ c21_ r h
      rw [plaws_eqTerm] at h
      refine FnO.of Try.func20 (rfl : Try.f20.body = some _) (Nat.le_of_ble_eq_true (by kernel_rfl)) (Nat.le_of_ble_eq_true (by kernel_rfl)) ?_
      intro w0 X0 Fin pv0 pb
      refine Wc.seq ?_
      refine Wc.region [] [] [2, 3] [2, 3] [] ⟨[(2, (.ptr 2 0, [])), (3, (.ptr 3 0, []))], [(2, .cells [.int .i64 c20_.gKind, .str c20_.gName, .int .i64 c20_.gNum, .sl (List.map GTerm.c c20_.gKids)] []), (3, .cells [.int .i64 c21_.gKind, .str c21_.gName, .int .i64 c21_.gNum, .sl (List.map GTerm.c c21_.gKids)] [])], []⟩ _ (by kernel_rfl) .nil ?_
      refine Wc.seq ?_
      refine Wc.seq ?_
      refine Wc.region [] [] [2, 3, 9] [2, 3] [] ⟨[(2, (.ptr 2 0, [])), (3, (.ptr 3 0, [])), (9, (.v (.bool (c20_.gKind != c21_.gKind)), []))], [(2, .cells [.int .i64 c20_.gKind, .str c20_.gName, .int .i64 c20_.gNum, .sl (List.map GTerm.c c20_.gKids)] []), (3, .cells [.int .i64 c21_.gKind, .str c21_.gName, .int .i64 c21_.gNum, .sl (List.map GTerm.c c21_.gKids)] [])], []⟩ _ (by kernel_rfl) .nil ?_
      rcases oif h with ⟨h17, h⟩ | ⟨h17, h⟩
      · refine Wc.condT h17 (by kernel_rfl) ?_
        refine Wc.seq ?_
        refine Wc.region [] [] [4] [] [] ⟨[(4, (.v (.bool false), []))], [], []⟩ _ (by kernel_rfl) .nil ?_
        refine Wc.ret ?_
        obtain rfl := Option.some.inj h
        exact ⟨.inl rfl, by kernel_rfl, by kernel_rfl⟩
      · refine Wc.condF h17 (by kernel_rfl) ?_
        refine Wc.fix (st' := ⟨[(2, (.ptr 2 0, [])), (3, (.ptr 3 0, []))], [(2, .cells [.int .i64 c20_.gKind, .str c20_.gName, .int .i64 c20_.gNum, .sl (List.map GTerm.c c20_.gKids)] []), (3, .cells [.int .i64 c21_.gKind, .str c21_.gName, .int .i64 c21_.gNum, .sl (List.map GTerm.c c21_.gKids)] [])], []⟩) [] [2, 3] [2, 3] [] (by kernel_rfl) ?_
        refine Wc.skip ?_
        refine Wc.seq ?_
        refine Wc.seq ?_
        refine Wc.region [] [] [2, 3, 14] [2, 3] [] ⟨[(2, (.ptr 2 0, [])), (3, (.ptr 3 0, [])), (14, (.v (.bool (!(sEq c20_.gName c21_.gName))), []))], [(2, .cells [.int .i64 c20_.gKind, .str c20_.gName, .int .i64 c20_.gNum, .sl (List.map GTerm.c c20_.gKids)] []), (3, .cells [.int .i64 c21_.gKind, .str c21_.gName, .int .i64 c21_.gNum, .sl (List.map GTerm.c c21_.gKids)] [])], []⟩ _ (by kernel_rfl) .nil ?_
        rcases oif h with ⟨h18, h⟩ | ⟨h18, h⟩
        · refine Wc.condT h18 (by kernel_rfl) ?_
          refine Wc.seq ?_
          refine Wc.region [] [] [4] [] [] ⟨[(4, (.v (.bool false), []))], [], []⟩ _ (by kernel_rfl) .nil ?_
          refine Wc.ret ?_
          obtain rfl := Option.some.inj h
          exact ⟨.inl rfl, by kernel_rfl, by kernel_rfl⟩
        · refine Wc.condF h18 (by kernel_rfl) ?_
          refine Wc.fix (st' := ⟨[(2, (.ptr 2 0, [])), (3, (.ptr 3 0, []))], [(2, .cells [.int .i64 c20_.gKind, .str c20_.gName, .int .i64 c20_.gNum, .sl (List.map GTerm.c c20_.gKids)] []), (3, .cells [.int .i64 c21_.gKind, .str c21_.gName, .int .i64 c21_.gNum, .sl (List.map GTerm.c c21_.gKids)] [])], []⟩) [] [2, 3] [2, 3] [] (by kernel_rfl) ?_
          refine Wc.skip ?_
          refine Wc.seq ?_
          refine Wc.seq ?_
          refine Wc.region [] [] [2, 3, 19] [2, 3] [] ⟨[(2, (.ptr 2 0, [])), (3, (.ptr 3 0, [])), (19, (.v (.bool (c20_.gNum != c21_.gNum)), []))], [(2, .cells [.int .i64 c20_.gKind, .str c20_.gName, .int .i64 c20_.gNum, .sl (List.map GTerm.c c20_.gKids)] []), (3, .cells [.int .i64 c21_.gKind, .str c21_.gName, .int .i64 c21_.gNum, .sl (List.map GTerm.c c21_.gKids)] [])], []⟩ _ (by kernel_rfl) .nil ?_
          rcases oif h with ⟨h19, h⟩ | ⟨h19, h⟩
          · refine Wc.condT h19 (by kernel_rfl) ?_
            refine Wc.seq ?_
            refine Wc.region [] [] [4] [] [] ⟨[(4, (.v (.bool false), []))], [], []⟩ _ (by kernel_rfl) .nil ?_
            refine Wc.ret ?_
            obtain rfl := Option.some.inj h
            exact ⟨.inl rfl, by kernel_rfl, by kernel_rfl⟩
          · refine Wc.condF h19 (by kernel_rfl) ?_
            refine Wc.fix (st' := ⟨[(2, (.ptr 2 0, [])), (3, (.ptr 3 0, []))], [(2, .cells [.int .i64 c20_.gKind, .str c20_.gName, .int .i64 c20_.gNum, .sl (List.map GTerm.c c20_.gKids)] []), (3, .cells [.int .i64 c21_.gKind, .str c21_.gName, .int .i64 c21_.gNum, .sl (List.map GTerm.c c21_.gKids)] [])], []⟩) [] [2, 3] [2, 3] [] (by kernel_rfl) ?_
            refine Wc.skip ?_
            refine Wc.seq ?_
            refine Wc.seq ?_
            obtain ⟨e22_, h20, h⟩ := obind h
            refine Wc.region [{}, {}, {}, {}, { r := some (.v (.bool e22_) []) }] [] [25] [] [] ⟨[(25, (.v (.bool (!e22_)), []))], [], []⟩ _ (by kernel_rfl) (.cons (ih_plaws_eqTermS h20) .nil) ?_
            rcases oif h with ⟨h21, h⟩ | ⟨h21, h⟩
            · refine Wc.condT h21 (by kernel_rfl) ?_
              refine Wc.seq ?_
              refine Wc.region [] [] [4] [] [] ⟨[(4, (.v (.bool false), []))], [], []⟩ _ (by kernel_rfl) .nil ?_
              refine Wc.ret ?_
              obtain rfl := Option.some.inj h
              exact ⟨.inl rfl, by kernel_rfl, by kernel_rfl⟩
            · refine Wc.condF h21 (by kernel_rfl) ?_
              refine Wc.fix (st' := ⟨[], [], []⟩) [] [] [] [] (by kernel_rfl) ?_
              refine Wc.skip ?_
              refine Wc.seq ?_
              refine Wc.region [] [] [4] [] [] ⟨[(4, (.v (.bool true), []))], [], []⟩ _ (by kernel_rfl) .nil ?_
              refine Wc.ret ?_
              obtain rfl := Option.some.inj h
              exact ⟨.inl rfl, by kernel_rfl, by kernel_rfl⟩
    · intro a23_ a24_ r h
      rw [plaws_eqTermS] at h
      refine FnO.of Try.func60 (rfl : Try.f60.body = some _) (Nat.le_of_ble_eq_true (by kernel_rfl)) (Nat.le_of_ble_eq_true (by kernel_rfl)) ?_
      intro w0 X0 Fin pv0 pb
      refine Wc.seq ?_
      refine Wc.region [] [] [0, 1] [] [] ⟨[(0, (.v (.sl (List.map GTerm.c a23_)), [])), (1, (.v (.sl (List.map GTerm.c a24_)), []))], [], []⟩ _ (by kernel_rfl) .nil ?_
      refine Wc.seq ?_
      refine Wc.seq ?_
      refine Wc.region [{}, { v := some (.int .i64 (a23_.length : Int)) }, {}, { v := some (.int .i64 (a24_.length : Int)) }] [] [0, 1, 10] [] [] ⟨[(0, (.v (.sl (List.map GTerm.c a23_)), [])), (1, (.v (.sl (List.map GTerm.c a24_)), [])), (10, (.v (.bool ((a23_.length : Int) != (a24_.length : Int))), []))], [], []⟩ _ (by kernel_rfl) (.cons (len_obl GTerm.c a23_) (.cons (len_obl GTerm.c a24_) .nil)) ?_
      rcases oif h with ⟨h22, h⟩ | ⟨h22, h⟩
      · refine Wc.condT h22 (by kernel_rfl) ?_
        refine Wc.seq ?_
        refine Wc.region [] [] [4] [] [] ⟨[(4, (.v (.bool false), []))], [], []⟩ _ (by kernel_rfl) .nil ?_
        refine Wc.ret ?_
        obtain rfl := Option.some.inj h
        exact ⟨.inl rfl, by kernel_rfl, by kernel_rfl⟩
      · refine Wc.condF h22 (by kernel_rfl) ?_
        refine Wc.fix (st' := ⟨[(0, (.v (.sl (List.map GTerm.c a23_)), [])), (1, (.v (.sl (List.map GTerm.c a24_)), []))], [], []⟩) [] [0, 1] [] [] (by kernel_rfl) ?_
        refine Wc.skip ?_
        refine Wc.seq ?_
        refine Wc.seq ?_
        refine Wc.region [] [] [0, 1, 5] [] [] ⟨[(0, (.v (.sl (List.map GTerm.c a23_)), [])), (1, (.v (.sl (List.map GTerm.c a24_)), [])), (5, (.v (.int .i64 0), []))], [], []⟩ _ (by kernel_rfl) .nil ?_
        obtain ⟨out1, h23, h⟩ := obind h
        refine Wc.lastJ (fun st => out1 = .done () ∧ st = ⟨[], [], []⟩) ?_ ?_
        · refine Wc.block ?_
          refine Wc.loop (fun m st => ∃ (b25_ : Int), st = ⟨[(0, (.v (.sl (List.map GTerm.c a23_)), [])), (1, (.v (.sl (List.map GTerm.c a24_)), [])), (5, (.v (.int .i64 b25_), []))], [], []⟩ ∧ plaws_eqTermS_L1 k (plaws_eqTerm k) (plaws_eqTermS k) a23_ a24_ m b25_ = some out1) ?_ k ⟨_, rfl, h23⟩
          rintro m st ⟨b25_, rfl, h23⟩
          cases m with
          | zero => exact (onone h23).elim
          | succ m =>
            refine Wc.seq ?_
            refine Wc.seq ?_
            refine Wc.region [{}, {}, { v := some (.int .i64 (a23_.length : Int)) }] [] [0, 1, 5, 14] [] [] ⟨[(0, (.v (.sl (List.map GTerm.c a23_)), [])), (1, (.v (.sl (List.map GTerm.c a24_)), [])), (5, (.v (.int .i64 b25_), [])), (14, (.v (.bool (decide (b25_ < (a23_.length : Int)))), []))], [], []⟩ _ (by kernel_rfl) (.cons (len_obl GTerm.c a23_) .nil) ?_
            rcases oif h23 with ⟨h24, h23⟩ | ⟨h24, h23⟩
            · refine Wc.condT h24 (by kernel_rfl) ?_
              refine Wc.fix (st' := ⟨[(0, (.v (.sl (List.map GTerm.c a23_)), [])), (1, (.v (.sl (List.map GTerm.c a24_)), [])), (5, (.v (.int .i64 b25_), []))], [], []⟩) [] [0, 1, 5] [] [] (by kernel_rfl) ?_
              refine Wc.skip ?_
              refine Wc.seq ?_
              refine Wc.block ?_
              refine Wc.seq ?_
              obtain ⟨c26_, h25, h23⟩ := obind h23
              obtain ⟨c27_, h26, h23⟩ := obind h23
              obtain ⟨e28_, h27, h23⟩ := obind h23
              refine Wc.draw hmix [{}, {}, { v := some (.vptr [.int .i64 c26_.gKind, .str c26_.gName, .int .i64 c26_.gNum, .sl (List.map GTerm.c c26_.gKids)]) }, {}, {}, {}, { v := some (.vptr [.int .i64 c27_.gKind, .str c27_.gName, .int .i64 c27_.gNum, .sl (List.map GTerm.c c27_.gKids)]) }, {}, { r := some (.v (.bool e28_) []) }] [] [0, 1, 5, 26] [] [] ⟨[(0, (.v (.sl (List.map GTerm.c a23_)), [])), (1, (.v (.sl (List.map GTerm.c a24_)), [])), (5, (.v (.int .i64 b25_), [])), (26, (.v (.bool (!e28_)), []))], [], []⟩ _ (by kernel_rfl) (fun X => by kernel_rfl) (.cons (at_obl (c := GTerm.c) (GTerm.c_eq c26_) GTerm.c_len h25) (.cons (len_ok 4 [.int .i64 c26_.gKind, .str c26_.gName, .int .i64 c26_.gNum, .sl (List.map GTerm.c c26_.gKids)]) (.cons (at_obl (c := GTerm.c) (GTerm.c_eq c27_) GTerm.c_len h26) (.cons (len_ok 4 [.int .i64 c27_.gKind, .str c27_.gName, .int .i64 c27_.gNum, .sl (List.map GTerm.c c27_.gKids)]) (.cons (ih_plaws_eqTerm h27) .nil))))) ?_
              rcases oif h23 with ⟨h28, h23⟩ | ⟨h28, h23⟩
              · refine Wc.condT h28 (by kernel_rfl) ?_
                refine Wc.seq ?_
                refine Wc.region [] [] [4] [] [] ⟨[(4, (.v (.bool false), []))], [], []⟩ _ (by kernel_rfl) .nil ?_
                refine Wc.ret ?_
                obtain rfl := Option.some.inj h23
                obtain rfl := Option.some.inj h
                exact ⟨.inl rfl, by kernel_rfl, by kernel_rfl⟩
              · refine Wc.condF h28 (by kernel_rfl) ?_
                refine Wc.fix (st' := ⟨[(0, (.v (.sl (List.map GTerm.c a23_)), [])), (1, (.v (.sl (List.map GTerm.c a24_)), [])), (5, (.v (.int .i64 b25_), []))], [], []⟩) [] [0, 1, 5] [] [] (by kernel_rfl) ?_
                refine Wc.skip ?_
                refine Wc.region [] [] [0, 1, 5] [] [] ⟨[(0, (.v (.sl (List.map GTerm.c a23_)), [])), (1, (.v (.sl (List.map GTerm.c a24_)), [])), (5, (.v (.int .i64 (wr.i64 (b25_ + 1))), []))], [], []⟩ _ (by kernel_rfl) .nil ?_
                exact ⟨_, Nat.lt_succ_self _, _, rfl, h23⟩
            · refine Wc.condF h24 (by kernel_rfl) ?_
              refine Wc.fix (st' := ⟨[], [], []⟩) [] [] [] [] (by kernel_rfl) ?_
              refine Wc.exit ?_
              obtain rfl := Option.some.inj h23
              exact ⟨rfl, rfl⟩
        · rintro st ⟨rfl, rfl⟩
          refine Wc.seq ?_
          refine Wc.region [] [] [4] [] [] ⟨[(4, (.v (.bool true), []))], [], []⟩ _ (by kernel_rfl) .nil ?_
          refine Wc.ret ?_
          obtain rfl := Option.some.inj h
          exact ⟨.inl rfl, by kernel_rfl, by kernel_rfl⟩
theorem claws_eqTerm {k : Nat} {c20_ : GTerm} {c21_ : GTerm} {r : Bool} (h : plaws_eqTerm k c20_ c21_ = some r) : FnO Try.prog 20 [.v (.agg [.int .i64 c20_.gKind, .str c20_.gName, .int .i64 c20_.gNum, .sl (List.map GTerm.c c20_.gKids)]) [], .v (.agg [.int .i64 c21_.gKind, .str c21_.gName, .int .i64 c21_.gNum, .sl (List.map GTerm.c c21_.gKids)]) []] (.v (.bool r) []) [] := (all_plaws_eqTerm k).1 h
theorem claws_eqTermS {k : Nat} {a23_ : List GTerm} {a24_ : List GTerm} {r : Bool} (h : plaws_eqTermS k a23_ a24_ = some r) : FnO Try.prog 60 [.v (.sl (List.map GTerm.c a23_)) [], .v (.sl (List.map GTerm.c a24_)) []] (.v (.bool r) []) [] := (all_plaws_eqTerm k).2 h

def plaws_markText_L1 (k : Nat) : Nat → Int → ByteArray → Option (Out ByteArray ByteArray)
  | 0, _, _ => none
  | m + 1, b30_, f31_ =>
    if (decide (b30_ > 0)) = true then
      if (10 : Int) ≠ 0 then
        if sumOk (strOfNums [wr.u8 (wr.i64 (48 + (Int.tmod b30_ 10)))]) f31_ then
          if (10 : Int) ≠ 0 then
            plaws_markText_L1 k m (wr.i64 (Int.tdiv b30_ 10)) ((strOfNums [wr.u8 (wr.i64 (48 + (Int.tmod b30_ 10)))]) ++ f31_)
          else none
        else none
      else none
    else
      some (.done f31_)
/-- laws.markText -/
def plaws_markText (k : Nat) (b29_ : Int) : Option ByteArray :=
  if (decide (b29_ ≤ 0)) = true then
    some (bs [109, 48])
  else
    (plaws_markText_L1 k k b29_ (bs [])).bind fun out1 => match out1 with
    | .ret r => some r
    | .done f32_ =>
      if sumOk (bs [109]) f32_ then
        some ((bs [109]) ++ f32_)
      else none
theorem claws_markText {k : Nat} {b29_ : Int} {r : ByteArray} (h : plaws_markText k b29_ = some r) : FnO Try.prog 51 [.v (.int .i64 b29_) []] (.v (.str r) []) [] := by
  refine FnO.of Try.func51 (rfl : Try.f51.body = some _) (Nat.le_of_ble_eq_true (by kernel_rfl)) (Nat.le_of_ble_eq_true (by kernel_rfl)) ?_
  intro w0 X0 Fin pv0 pb
  unfold plaws_markText at h
  refine Wc.seq ?_
  refine Wc.region [] [] [0] [] [] ⟨[(0, (.v (.int .i64 b29_), []))], [], []⟩ _ (by kernel_rfl) .nil ?_
  refine Wc.seq ?_
  refine Wc.seq ?_
  refine Wc.region [] [] [0, 5] [] [] ⟨[(0, (.v (.int .i64 b29_), [])), (5, (.v (.bool (decide (b29_ ≤ 0))), []))], [], []⟩ _ (by kernel_rfl) .nil ?_
  rcases oif h with ⟨h29, h⟩ | ⟨h29, h⟩
  · refine Wc.condT h29 (by kernel_rfl) ?_
    refine Wc.seq ?_
    refine Wc.region [] [] [2] [] [] ⟨[(2, (.v (.str (bs [109, 48])), []))], [], []⟩ _ (by kernel_rfl) .nil ?_
    refine Wc.ret ?_
    obtain rfl := Option.some.inj h
    exact ⟨.inl rfl, by kernel_rfl, by kernel_rfl⟩
  · refine Wc.condF h29 (by kernel_rfl) ?_
    refine Wc.fix (st' := ⟨[(0, (.v (.int .i64 b29_), []))], [], []⟩) [] [0] [] [] (by kernel_rfl) ?_
    refine Wc.skip ?_
    refine Wc.seq ?_
    refine Wc.region [] [] [0, 3] [] [] ⟨[(0, (.v (.int .i64 b29_), [])), (3, (.v (.str (bs [])), []))], [], []⟩ _ (by kernel_rfl) .nil ?_
    obtain ⟨out1, h30, h⟩ := obind h
    refine Wc.seqJ (fun st => ∃ (f32_ : ByteArray), out1 = .done f32_ ∧ st = ⟨[(3, (.v (.str f32_), []))], [], []⟩) ?_ ?_
    · refine Wc.block ?_
      refine Wc.loop (fun m st => ∃ (b30_ : Int) (f31_ : ByteArray), st = ⟨[(0, (.v (.int .i64 b30_), [])), (3, (.v (.str f31_), []))], [], []⟩ ∧ plaws_markText_L1 k m b30_ f31_ = some out1) ?_ k ⟨_, _, rfl, h30⟩
      rintro m st ⟨b30_, f31_, rfl, h30⟩
      cases m with
      | zero => exact (onone h30).elim
      | succ m =>
        refine Wc.seq ?_
        refine Wc.seq ?_
        refine Wc.region [] [] [0, 3, 7] [] [] ⟨[(0, (.v (.int .i64 b30_), [])), (3, (.v (.str f31_), [])), (7, (.v (.bool (decide (b30_ > 0))), []))], [], []⟩ _ (by kernel_rfl) .nil ?_
        rcases oif h30 with ⟨h31, h30⟩ | ⟨h31, h30⟩
        · refine Wc.condT h31 (by kernel_rfl) ?_
          refine Wc.fix (st' := ⟨[(0, (.v (.int .i64 b30_), [])), (3, (.v (.str f31_), []))], [], []⟩) [] [0, 3] [] [] (by kernel_rfl) ?_
          refine Wc.skip ?_
          refine Wc.block ?_
          refine Wc.seq ?_
          obtain ⟨h32, h30⟩ := oguard h30
          obtain ⟨h33, h30⟩ := oguard h30
          refine Wc.region [{}, {}, {}, {}, { c := some (List.map cI.u8 [wr.u8 (wr.i64 (48 + (Int.tmod b30_ 10)))]) }, { v := some (.str (strOfNums [wr.u8 (wr.i64 (48 + (Int.tmod b30_ 10)))])) }] [] [0, 3] [] [] ⟨[(0, (.v (.int .i64 b30_), [])), (3, (.v (.str ((strOfNums [wr.u8 (wr.i64 (48 + (Int.tmod b30_ 10)))]) ++ f31_)), []))], [], []⟩ _ (by kernel_rfl) (.cons h32 (.cons (cl_cons (c := cI.u8) (x := wr.u8 (wr.i64 (48 + (Int.tmod b30_ 10)))) rfl (cl_nil cI.u8)) (.cons (bytes_obl [wr.u8 (wr.i64 (48 + (Int.tmod b30_ 10)))]) (.cons h33 .nil)))) ?_
          obtain ⟨h34, h30⟩ := oguard h30
          refine Wc.region [] [] [0, 3] [] [] ⟨[(0, (.v (.int .i64 (wr.i64 (Int.tdiv b30_ 10))), [])), (3, (.v (.str ((strOfNums [wr.u8 (wr.i64 (48 + (Int.tmod b30_ 10)))]) ++ f31_)), []))], [], []⟩ _ (by kernel_rfl) (.cons h34 .nil) ?_
          exact ⟨_, Nat.lt_succ_self _, _, _, rfl, h30⟩
        · refine Wc.condF h31 (by kernel_rfl) ?_
          refine Wc.fix (st' := ⟨[(3, (.v (.str f31_), []))], [], []⟩) [] [3] [] [] (by kernel_rfl) ?_
          refine Wc.exit ?_
          obtain rfl := Option.some.inj h30
          exact ⟨_, rfl, rfl⟩
    · rintro st ⟨f32_, rfl, rfl⟩
      refine Wc.seq ?_
      obtain ⟨h35, h⟩ := oguard h
      refine Wc.region [] [] [2] [] [] ⟨[(2, (.v (.str ((bs [109]) ++ f32_)), []))], [], []⟩ _ (by kernel_rfl) (.cons h35 .nil) ?_
      refine Wc.ret ?_
      obtain rfl := Option.some.inj h
      exact ⟨.inl rfl, by kernel_rfl, by kernel_rfl⟩

def plaws_markTermS_L1 (k : Nat) (rlaws_markTermS : (List GTerm) → Int → Option ((List GTerm) × Int)) : Nat → Int → Int → (List GTerm) → Option (Out ((List GTerm) × Int) (Int × (List GTerm)))
  | 0, _, _, _ => none
  | m + 1, b35_, b36_, a37_ =>
    if (decide (b36_ < (a37_.length : Int))) = true then
      (at' a37_ b36_).bind fun c40_ =>
      (plaws_markText k (wr.i64 (b35_ + 1))).bind fun f41_ =>
      (at' (a37_.set ((b36_).toNat) (GTerm.mk b35_ c40_.gName c40_.gNum c40_.gKids)) b36_).bind fun c42_ =>
      (at' ((a37_.set ((b36_).toNat) (GTerm.mk b35_ c40_.gName c40_.gNum c40_.gKids)).set ((b36_).toNat) (GTerm.mk c42_.gKind f41_ c42_.gNum c42_.gKids)) b36_).bind fun c43_ =>
      (at' (((a37_.set ((b36_).toNat) (GTerm.mk b35_ c40_.gName c40_.gNum c40_.gKids)).set ((b36_).toNat) (GTerm.mk c42_.gKind f41_ c42_.gNum c42_.gKids)).set ((b36_).toNat) (GTerm.mk c43_.gKind c43_.gName (wr.i64 ((wr.i64 (b35_ + 1)) + 1)) c43_.gKids)) b36_).bind fun c44_ =>
      (rlaws_markTermS c44_.gKids (wr.i64 ((wr.i64 ((wr.i64 (b35_ + 1)) + 1)) + 1))).bind fun g45_ =>
      plaws_markTermS_L1 k rlaws_markTermS m g45_.2 (wr.i64 (b36_ + 1)) ((((a37_.set ((b36_).toNat) (GTerm.mk b35_ c40_.gName c40_.gNum c40_.gKids)).set ((b36_).toNat) (GTerm.mk c42_.gKind f41_ c42_.gNum c42_.gKids)).set ((b36_).toNat) (GTerm.mk c43_.gKind c43_.gName (wr.i64 ((wr.i64 (b35_ + 1)) + 1)) c43_.gKids)).set ((b36_).toNat) (GTerm.mk c44_.gKind c44_.gName c44_.gNum g45_.1))
    else
      some (.done (b35_, a37_))
mutual
/-- laws.markTermS -/
def plaws_markTermS : Nat → (List GTerm) → Int → Option ((List GTerm) × Int)
  | 0, _, _ => none
  | k + 1, a33_, b34_ =>
    (plaws_markTermS_L1 k (plaws_markTermS k) k b34_ 0 a33_).bind fun out1 => match out1 with
    | .ret r => some r
    | .done (b38_, a39_) =>
      some (a39_, b38_)
end
theorem all_plaws_markTermS : ∀ k : Nat, (∀ {a33_ : List GTerm} {b34_ : Int} {r : (List GTerm) × Int}, plaws_markTermS k a33_ b34_ = some r → FnO Try.prog 61 [.io (.slx) [(0, .ex 1000000007 true (List.map GTerm.c a33_))], .v (.int .i64 b34_) []] (.v (.int .i64 r.2) []) [(0, .v .undef [(0, .ex 1000000007 true (List.map GTerm.c r.1))])]) := by
  intro k
  induction k with
  | zero =>
    · intro a33_ b34_ r h
      exact (onone (by rw [plaws_markTermS] at h; exact h)).elim
  | succ k ih =>
    have ih_plaws_markTermS := @ih
    · intro a33_ b34_ r h
      rw [plaws_markTermS] at h
      refine FnO.of Try.func61 (rfl : Try.f61.body = some _) (Nat.le_of_ble_eq_true (by kernel_rfl)) (Nat.le_of_ble_eq_true (by kernel_rfl)) ?_
      intro w0 X0 Fin pv0 pb
      refine Wc.seq ?_
      refine Wc.region [] [] [0, 1] [] [0] ⟨[(0, (.v (.slx), [(0, .al (.a 0 0) [])])), (1, (.v (.int .i64 b34_), []))], [], [(0, [(0, .ex 1000000007 true (List.map GTerm.c a33_))])]⟩ _ (by kernel_rfl) .nil ?_
      refine Wc.seq ?_
      refine Wc.seq ?_
      refine Wc.region [] [] [0, 1, 5] [] [0] ⟨[(0, (.v (.slx), [(0, .al (.a 0 0) [])])), (1, (.v (.int .i64 b34_), [])), (5, (.v (.int .i64 0), []))], [], [(0, [(0, .ex 1000000007 true (List.map GTerm.c a33_))])]⟩ _ (by kernel_rfl) .nil ?_
      obtain ⟨out1, h36, h⟩ := obind h
      refine Wc.lastJ (fun st => ∃ (b38_ : Int) (a39_ : List GTerm), out1 = .done (b38_, a39_) ∧ st = ⟨[(1, (.v (.int .i64 b38_), []))], [], [(0, [(0, .ex 1000000007 true (List.map GTerm.c a39_))])]⟩) ?_ ?_
      · refine Wc.block ?_
        refine Wc.loop (fun m st => ∃ (b35_ : Int) (b36_ : Int) (a37_ : List GTerm), st = ⟨[(0, (.v (.slx), [(0, .al (.a 0 0) [])])), (1, (.v (.int .i64 b35_), [])), (5, (.v (.int .i64 b36_), []))], [], [(0, [(0, .ex 1000000007 true (List.map GTerm.c a37_))])]⟩ ∧ plaws_markTermS_L1 k (plaws_markTermS k) m b35_ b36_ a37_ = some out1) ?_ k ⟨_, _, _, rfl, h36⟩
        rintro m st ⟨b35_, b36_, a37_, rfl, h36⟩
        cases m with
        | zero => exact (onone h36).elim
        | succ m =>
          refine Wc.seq ?_
          refine Wc.seq ?_
          refine Wc.region [{}, {}, { v := some (.int .i64 (a37_.length : Int)) }] [] [0, 1, 5, 9] [] [0] ⟨[(0, (.v (.slx), [(0, .al (.a 0 0) [])])), (1, (.v (.int .i64 b35_), [])), (5, (.v (.int .i64 b36_), [])), (9, (.v (.bool (decide (b36_ < (a37_.length : Int)))), []))], [], [(0, [(0, .ex 1000000007 true (List.map GTerm.c a37_))])]⟩ _ (by kernel_rfl) (.cons (len_obl GTerm.c a37_) .nil) ?_
          rcases oif h36 with ⟨h37, h36⟩ | ⟨h37, h36⟩
          · refine Wc.condT h37 (by kernel_rfl) ?_
            refine Wc.fix (st' := ⟨[(0, (.v (.slx), [(0, .al (.a 0 0) [])])), (1, (.v (.int .i64 b35_), [])), (5, (.v (.int .i64 b36_), []))], [], [(0, [(0, .ex 1000000007 true (List.map GTerm.c a37_))])]⟩) [] [0, 1, 5] [] [0] (by kernel_rfl) ?_
            refine Wc.skip ?_
            refine Wc.seq ?_
            refine Wc.block ?_
            refine Wc.seq ?_
            obtain ⟨c40_, h38, h36⟩ := obind h36
            refine Wc.region [{}, {}, {}, {}, {}, { c := some (List.map GTerm.c (a37_.set ((b36_).toNat) (GTerm.mk b35_ c40_.gName c40_.gNum c40_.gKids))) }] [] [0, 1, 5] [] [0] ⟨[(0, (.v (.slx), [(0, .al (.a 0 0) [])])), (1, (.v (.int .i64 b35_), [])), (5, (.v (.int .i64 b36_), []))], [], [(0, [(0, .ex 1000000007 true (List.map GTerm.c (a37_.set ((b36_).toNat) (GTerm.mk b35_ c40_.gName c40_.gNum c40_.gKids))))])]⟩ _ (by kernel_rfl) (.cons (ix_obl (c := GTerm.c) GTerm.c_len h38) (.cons (mod_obl (off := 0) (new := [.int .i64 b35_]) (c := GTerm.c) (GTerm.c_eq c40_) (GTerm.c_eq (GTerm.mk b35_ c40_.gName c40_.gNum c40_.gKids)) (at'_spec h38).2 rfl) (.cons (st_obl (sz := 4) (off := 0) (s := 1) (c := GTerm.c) (GTerm.c_eq c40_) (at'_spec h38).2 rfl (Nat.le_of_ble_eq_true rfl)) .nil))) ?_
            refine Wc.seq ?_
            refine Wc.region [] [] [0, 1, 5] [] [0] ⟨[(0, (.v (.slx), [(0, .al (.a 0 0) [])])), (1, (.v (.int .i64 (wr.i64 (b35_ + 1))), [])), (5, (.v (.int .i64 b36_), []))], [], [(0, [(0, .ex 1000000007 true (List.map GTerm.c (a37_.set ((b36_).toNat) (GTerm.mk b35_ c40_.gName c40_.gNum c40_.gKids))))])]⟩ _ (by kernel_rfl) .nil ?_
            refine Wc.seq ?_
            obtain ⟨f41_, h39, h36⟩ := obind h36
            obtain ⟨c42_, h40, h36⟩ := obind h36
            refine Wc.region [{}, {}, {}, { r := some (.v (.str f41_) []) }, {}, {}, { c := some (List.map GTerm.c ((a37_.set ((b36_).toNat) (GTerm.mk b35_ c40_.gName c40_.gNum c40_.gKids)).set ((b36_).toNat) (GTerm.mk c42_.gKind f41_ c42_.gNum c42_.gKids))) }] [] [0, 1, 5] [] [0] ⟨[(0, (.v (.slx), [(0, .al (.a 0 0) [])])), (1, (.v (.int .i64 (wr.i64 (b35_ + 1))), [])), (5, (.v (.int .i64 b36_), []))], [], [(0, [(0, .ex 1000000007 true (List.map GTerm.c ((a37_.set ((b36_).toNat) (GTerm.mk b35_ c40_.gName c40_.gNum c40_.gKids)).set ((b36_).toNat) (GTerm.mk c42_.gKind f41_ c42_.gNum c42_.gKids))))])]⟩ _ (by kernel_rfl) (.cons (claws_markText h39) (.cons (ix_obl (c := GTerm.c) GTerm.c_len h40) (.cons (mod_obl (off := 1) (new := [.str f41_]) (c := GTerm.c) (GTerm.c_eq c42_) (GTerm.c_eq (GTerm.mk c42_.gKind f41_ c42_.gNum c42_.gKids)) (at'_spec h40).2 rfl) (.cons (st_obl (sz := 4) (off := 1) (s := 1) (c := GTerm.c) (GTerm.c_eq c42_) (at'_spec h40).2 rfl (Nat.le_of_ble_eq_true rfl)) .nil)))) ?_
            refine Wc.seq ?_
            refine Wc.region [] [] [0, 1, 5] [] [0] ⟨[(0, (.v (.slx), [(0, .al (.a 0 0) [])])), (1, (.v (.int .i64 (wr.i64 ((wr.i64 (b35_ + 1)) + 1))), [])), (5, (.v (.int .i64 b36_), []))], [], [(0, [(0, .ex 1000000007 true (List.map GTerm.c ((a37_.set ((b36_).toNat) (GTerm.mk b35_ c40_.gName c40_.gNum c40_.gKids)).set ((b36_).toNat) (GTerm.mk c42_.gKind f41_ c42_.gNum c42_.gKids))))])]⟩ _ (by kernel_rfl) .nil ?_
            refine Wc.seq ?_
            obtain ⟨c43_, h41, h36⟩ := obind h36
            refine Wc.region [{}, {}, {}, {}, {}, { c := some (List.map GTerm.c (((a37_.set ((b36_).toNat) (GTerm.mk b35_ c40_.gName c40_.gNum c40_.gKids)).set ((b36_).toNat) (GTerm.mk c42_.gKind f41_ c42_.gNum c42_.gKids)).set ((b36_).toNat) (GTerm.mk c43_.gKind c43_.gName (wr.i64 ((wr.i64 (b35_ + 1)) + 1)) c43_.gKids))) }] [] [0, 1, 5] [] [0] ⟨[(0, (.v (.slx), [(0, .al (.a 0 0) [])])), (1, (.v (.int .i64 (wr.i64 ((wr.i64 (b35_ + 1)) + 1))), [])), (5, (.v (.int .i64 b36_), []))], [], [(0, [(0, .ex 1000000007 true (List.map GTerm.c (((a37_.set ((b36_).toNat) (GTerm.mk b35_ c40_.gName c40_.gNum c40_.gKids)).set ((b36_).toNat) (GTerm.mk c42_.gKind f41_ c42_.gNum c42_.gKids)).set ((b36_).toNat) (GTerm.mk c43_.gKind c43_.gName (wr.i64 ((wr.i64 (b35_ + 1)) + 1)) c43_.gKids))))])]⟩ _ (by kernel_rfl) (.cons (ix_obl (c := GTerm.c) GTerm.c_len h41) (.cons (mod_obl (off := 2) (new := [.int .i64 (wr.i64 ((wr.i64 (b35_ + 1)) + 1))]) (c := GTerm.c) (GTerm.c_eq c43_) (GTerm.c_eq (GTerm.mk c43_.gKind c43_.gName (wr.i64 ((wr.i64 (b35_ + 1)) + 1)) c43_.gKids)) (at'_spec h41).2 rfl) (.cons (st_obl (sz := 4) (off := 2) (s := 1) (c := GTerm.c) (GTerm.c_eq c43_) (at'_spec h41).2 rfl (Nat.le_of_ble_eq_true rfl)) .nil))) ?_
            refine Wc.seq ?_
            refine Wc.region [] [] [0, 1, 5] [] [0] ⟨[(0, (.v (.slx), [(0, .al (.a 0 0) [])])), (1, (.v (.int .i64 (wr.i64 ((wr.i64 ((wr.i64 (b35_ + 1)) + 1)) + 1))), [])), (5, (.v (.int .i64 b36_), []))], [], [(0, [(0, .ex 1000000007 true (List.map GTerm.c (((a37_.set ((b36_).toNat) (GTerm.mk b35_ c40_.gName c40_.gNum c40_.gKids)).set ((b36_).toNat) (GTerm.mk c42_.gKind f41_ c42_.gNum c42_.gKids)).set ((b36_).toNat) (GTerm.mk c43_.gKind c43_.gName (wr.i64 ((wr.i64 (b35_ + 1)) + 1)) c43_.gKids))))])]⟩ _ (by kernel_rfl) .nil ?_
            obtain ⟨c44_, h42, h36⟩ := obind h36
            obtain ⟨g45_, h43, h36⟩ := obind h36
            refine Wc.region [{}, {}, {}, {}, { v := some (.slx) }, {}, { c := some (List.map GTerm.c ((((a37_.set ((b36_).toNat) (GTerm.mk b35_ c40_.gName c40_.gNum c40_.gKids)).set ((b36_).toNat) (GTerm.mk c42_.gKind f41_ c42_.gNum c42_.gKids)).set ((b36_).toNat) (GTerm.mk c43_.gKind c43_.gName (wr.i64 ((wr.i64 (b35_ + 1)) + 1)) c43_.gKids)).set ((b36_).toNat) (GTerm.mk c44_.gKind c44_.gName c44_.gNum g45_.1))), io := [0], r := some (.v (.int .i64 g45_.2) []), outs := [(0, .v .undef [(0, .ex 1000000007 true (List.map GTerm.c g45_.1))])], ioc := [(0, .ex 1000000007 true (List.map GTerm.c c44_.gKids))] }] [] [0, 1, 5] [] [0] ⟨[(0, (.v (.slx), [(0, .al (.a 0 0) [])])), (1, (.v (.int .i64 g45_.2), [])), (5, (.v (.int .i64 b36_), []))], [], [(0, [(0, .ex 1000000007 true (List.map GTerm.c ((((a37_.set ((b36_).toNat) (GTerm.mk b35_ c40_.gName c40_.gNum c40_.gKids)).set ((b36_).toNat) (GTerm.mk c42_.gKind f41_ c42_.gNum c42_.gKids)).set ((b36_).toNat) (GTerm.mk c43_.gKind c43_.gName (wr.i64 ((wr.i64 (b35_ + 1)) + 1)) c43_.gKids)).set ((b36_).toNat) (GTerm.mk c44_.gKind c44_.gName c44_.gNum g45_.1))))])]⟩ _ (by kernel_rfl) (.cons (ix_obl (c := GTerm.c) GTerm.c_len h42) (.cons (el_oblD (sz := 4) (off := 3) (s := 1) (ag := false) (v := .slx) (c := GTerm.c) (GTerm.c_eq c44_) (at'_spec h42).2 rfl (Nat.le_of_ble_eq_true rfl) rfl) (.cons (own_obl (own := [(0, .al (.a 0 0) [(((b36_).toNat), 4, 3)])]) (p := .a 0 0) (m := (b36_).toNat) (sz := 4) (off := 3) (js := [0]) rfl) (.cons (seg_obl (sz := 4) (off := 3) (n := [.sl (List.map GTerm.c c44_.gKids)]) (c := GTerm.c) (GTerm.c_eq c44_) (at'_spec h42).2 rfl (Nat.le_of_ble_eq_true rfl) rfl) (.cons (mod_obl (off := 3) (new := [.sl (List.map GTerm.c g45_.1)]) (c := GTerm.c) (GTerm.c_eq c44_) (GTerm.c_eq (GTerm.mk c44_.gKind c44_.gName c44_.gNum g45_.1)) (at'_spec h42).2 rfl) (.cons (FnO.any (args := [.io (.slx) [(0, .ex 1000000007 true (List.map GTerm.c c44_.gKids))], .v (.int .i64 (wr.i64 ((wr.i64 ((wr.i64 (b35_ + 1)) + 1)) + 1))) []]) (ih_plaws_markTermS h43)) .nil)))))) ?_
            refine Wc.region [] [] [0, 1, 5] [] [0] ⟨[(0, (.v (.slx), [(0, .al (.a 0 0) [])])), (1, (.v (.int .i64 g45_.2), [])), (5, (.v (.int .i64 (wr.i64 (b36_ + 1))), []))], [], [(0, [(0, .ex 1000000007 true (List.map GTerm.c ((((a37_.set ((b36_).toNat) (GTerm.mk b35_ c40_.gName c40_.gNum c40_.gKids)).set ((b36_).toNat) (GTerm.mk c42_.gKind f41_ c42_.gNum c42_.gKids)).set ((b36_).toNat) (GTerm.mk c43_.gKind c43_.gName (wr.i64 ((wr.i64 (b35_ + 1)) + 1)) c43_.gKids)).set ((b36_).toNat) (GTerm.mk c44_.gKind c44_.gName c44_.gNum g45_.1))))])]⟩ _ (by kernel_rfl) .nil ?_
            exact ⟨_, Nat.lt_succ_self _, _, _, _, rfl, h36⟩
          · refine Wc.condF h37 (by kernel_rfl) ?_
            refine Wc.fix (st' := ⟨[(1, (.v (.int .i64 b35_), []))], [], [(0, [(0, .ex 1000000007 true (List.map GTerm.c a37_))])]⟩) [] [1] [] [0] (by kernel_rfl) ?_
            refine Wc.exit ?_
            obtain rfl := Option.some.inj h36
            exact ⟨_, _, rfl, rfl⟩
      · rintro st ⟨b38_, a39_, rfl, rfl⟩
        refine Wc.seq ?_
        refine Wc.region [] [] [4] [] [0] ⟨[(4, (.v (.int .i64 b38_), []))], [], [(0, [(0, .ex 1000000007 true (List.map GTerm.c a39_))])]⟩ _ (by kernel_rfl) .nil ?_
        refine Wc.ret ?_
        obtain rfl := Option.some.inj h
        exact ⟨.inl rfl, by kernel_rfl, by kernel_rfl⟩
theorem claws_markTermS {k : Nat} {a33_ : List GTerm} {b34_ : Int} {r : (List GTerm) × Int} (h : plaws_markTermS k a33_ b34_ = some r) : FnO Try.prog 61 [.io (.slx) [(0, .ex 1000000007 true (List.map GTerm.c a33_))], .v (.int .i64 b34_) []] (.v (.int .i64 r.2) []) [(0, .v .undef [(0, .ex 1000000007 true (List.map GTerm.c r.1))])] := (all_plaws_markTermS k) h

/-- laws.markTerm -/
def plaws_markTerm (k : Nat) (c46_ : GTerm) (b47_ : Int) : Option (GTerm × Int) :=
  (plaws_markTermS k c46_.gKids b47_).bind fun g48_ =>
  some (GTerm.mk c46_.gKind c46_.gName c46_.gNum g48_.1, g48_.2)
theorem claws_markTerm {k : Nat} {c46_ : GTerm} {b47_ : Int} {r : GTerm × Int} (h : plaws_markTerm k c46_ b47_ = some r) : FnO Try.prog 21 [.io (.agg [.int .i64 c46_.gKind, .str c46_.gName, .int .i64 c46_.gNum, .slx]) [(3, .ex 1000000007 true (List.map GTerm.c c46_.gKids))], .v (.int .i64 b47_) []] (.v (.int .i64 r.2) []) [(0, .v .undef [(3, .ex 1000000007 true (List.map GTerm.c r.1.gKids))])] := by
  refine FnO.of Try.func21 (rfl : Try.f21.body = some _) (Nat.le_of_ble_eq_true (by kernel_rfl)) (Nat.le_of_ble_eq_true (by kernel_rfl)) ?_
  intro w0 X0 Fin pv0 pb
  unfold plaws_markTerm at h
  refine Wc.seq ?_
  refine Wc.region [] [] [1, 2] [2] [0] ⟨[(1, (.v (.int .i64 b47_), [])), (2, (.ptr 2 0, []))], [(2, .cells [.int .i64 c46_.gKind, .str c46_.gName, .int .i64 c46_.gNum, .slx] [(3, .al (.a 0 3) [])])], [(0, [(3, .ex 1000000007 true (List.map GTerm.c c46_.gKids))])]⟩ _ (by kernel_rfl) .nil ?_
  refine Wc.seq ?_
  obtain ⟨g48_, h44, h⟩ := obind h
  refine Wc.region [{}, {}, {}, { io := [0], r := some (.v (.int .i64 g48_.2) []), outs := [(0, .v .undef [(0, .ex 1000000007 true (List.map GTerm.c g48_.1))])] }] [] [1] [] [0] ⟨[(1, (.v (.int .i64 g48_.2), []))], [], [(0, [(3, .ex 1000000007 true (List.map GTerm.c g48_.1))])]⟩ _ (by kernel_rfl) (.cons (FnO.any (args := [.io (.slx) [(0, .ex 1000000007 true (List.map GTerm.c c46_.gKids))], .v (.int .i64 b47_) []]) (claws_markTermS h44)) .nil) ?_
  refine Wc.seq ?_
  refine Wc.region [] [] [4] [] [0] ⟨[(4, (.v (.int .i64 g48_.2), []))], [], [(0, [(3, .ex 1000000007 true (List.map GTerm.c g48_.1))])]⟩ _ (by kernel_rfl) .nil ?_
  refine Wc.ret ?_
  obtain rfl := Option.some.inj h
  exact ⟨.inl rfl, by kernel_rfl, by kernel_rfl⟩

/-- laws.eqIns -/
def plaws_eqIns (k : Nat) (i49_ : GIns) (i50_ : GIns) : Option Bool :=
  if (i49_.gOp != i50_.gOp) = true then
    some false
  else
    if (!(sEq i49_.gName i50_.gName)) = true then
      some false
    else
      if (i49_.gNum != i50_.gNum) = true then
        some false
      else
        if (i49_.gMany != i50_.gMany) = true then
          some false
        else
          some true
theorem claws_eqIns {k : Nat} {i49_ : GIns} {i50_ : GIns} {r : Bool} (h : plaws_eqIns k i49_ i50_ = some r) : FnO Try.prog 69 [.v (.agg [.int .i64 i49_.gOp, .str i49_.gName, .int .i64 i49_.gNum, .int .i64 i49_.gMany]) [], .v (.agg [.int .i64 i50_.gOp, .str i50_.gName, .int .i64 i50_.gNum, .int .i64 i50_.gMany]) []] (.v (.bool r) []) [] := by
  refine FnO.of Try.func69 (rfl : Try.f69.body = some _) (Nat.le_of_ble_eq_true (by kernel_rfl)) (Nat.le_of_ble_eq_true (by kernel_rfl)) ?_
  intro w0 X0 Fin pv0 pb
  unfold plaws_eqIns at h
  refine Wc.seq ?_
  refine Wc.region [] [] [2, 3] [2, 3] [] ⟨[(2, (.ptr 2 0, [])), (3, (.ptr 3 0, []))], [(2, .cells [.int .i64 i49_.gOp, .str i49_.gName, .int .i64 i49_.gNum, .int .i64 i49_.gMany] []), (3, .cells [.int .i64 i50_.gOp, .str i50_.gName, .int .i64 i50_.gNum, .int .i64 i50_.gMany] [])], []⟩ _ (by kernel_rfl) .nil ?_
  refine Wc.seq ?_
  refine Wc.seq ?_
  refine Wc.region [] [] [2, 3, 9] [2, 3] [] ⟨[(2, (.ptr 2 0, [])), (3, (.ptr 3 0, [])), (9, (.v (.bool (i49_.gOp != i50_.gOp)), []))], [(2, .cells [.int .i64 i49_.gOp, .str i49_.gName, .int .i64 i49_.gNum, .int .i64 i49_.gMany] []), (3, .cells [.int .i64 i50_.gOp, .str i50_.gName, .int .i64 i50_.gNum, .int .i64 i50_.gMany] [])], []⟩ _ (by kernel_rfl) .nil ?_
  rcases oif h with ⟨h45, h⟩ | ⟨h45, h⟩
  · refine Wc.condT h45 (by kernel_rfl) ?_
    refine Wc.seq ?_
    refine Wc.region [] [] [4] [] [] ⟨[(4, (.v (.bool false), []))], [], []⟩ _ (by kernel_rfl) .nil ?_
    refine Wc.ret ?_
    obtain rfl := Option.some.inj h
    exact ⟨.inl rfl, by kernel_rfl, by kernel_rfl⟩
  · refine Wc.condF h45 (by kernel_rfl) ?_
    refine Wc.fix (st' := ⟨[(2, (.ptr 2 0, [])), (3, (.ptr 3 0, []))], [(2, .cells [.int .i64 i49_.gOp, .str i49_.gName, .int .i64 i49_.gNum, .int .i64 i49_.gMany] []), (3, .cells [.int .i64 i50_.gOp, .str i50_.gName, .int .i64 i50_.gNum, .int .i64 i50_.gMany] [])], []⟩) [] [2, 3] [2, 3] [] (by kernel_rfl) ?_
    refine Wc.skip ?_
    refine Wc.seq ?_
    refine Wc.seq ?_
    refine Wc.region [] [] [2, 3, 14] [2, 3] [] ⟨[(2, (.ptr 2 0, [])), (3, (.ptr 3 0, [])), (14, (.v (.bool (!(sEq i49_.gName i50_.gName))), []))], [(2, .cells [.int .i64 i49_.gOp, .str i49_.gName, .int .i64 i49_.gNum, .int .i64 i49_.gMany] []), (3, .cells [.int .i64 i50_.gOp, .str i50_.gName, .int .i64 i50_.gNum, .int .i64 i50_.gMany] [])], []⟩ _ (by kernel_rfl) .nil ?_
    rcases oif h with ⟨h46, h⟩ | ⟨h46, h⟩
    · refine Wc.condT h46 (by kernel_rfl) ?_
      refine Wc.seq ?_
      refine Wc.region [] [] [4] [] [] ⟨[(4, (.v (.bool false), []))], [], []⟩ _ (by kernel_rfl) .nil ?_
      refine Wc.ret ?_
      obtain rfl := Option.some.inj h
      exact ⟨.inl rfl, by kernel_rfl, by kernel_rfl⟩
    · refine Wc.condF h46 (by kernel_rfl) ?_
      refine Wc.fix (st' := ⟨[(2, (.ptr 2 0, [])), (3, (.ptr 3 0, []))], [(2, .cells [.int .i64 i49_.gOp, .str i49_.gName, .int .i64 i49_.gNum, .int .i64 i49_.gMany] []), (3, .cells [.int .i64 i50_.gOp, .str i50_.gName, .int .i64 i50_.gNum, .int .i64 i50_.gMany] [])], []⟩) [] [2, 3] [2, 3] [] (by kernel_rfl) ?_
      refine Wc.skip ?_
      refine Wc.seq ?_
      refine Wc.seq ?_
      refine Wc.region [] [] [2, 3, 19] [2, 3] [] ⟨[(2, (.ptr 2 0, [])), (3, (.ptr 3 0, [])), (19, (.v (.bool (i49_.gNum != i50_.gNum)), []))], [(2, .cells [.int .i64 i49_.gOp, .str i49_.gName, .int .i64 i49_.gNum, .int .i64 i49_.gMany] []), (3, .cells [.int .i64 i50_.gOp, .str i50_.gName, .int .i64 i50_.gNum, .int .i64 i50_.gMany] [])], []⟩ _ (by kernel_rfl) .nil ?_
      rcases oif h with ⟨h47, h⟩ | ⟨h47, h⟩
      · refine Wc.condT h47 (by kernel_rfl) ?_
        refine Wc.seq ?_
        refine Wc.region [] [] [4] [] [] ⟨[(4, (.v (.bool false), []))], [], []⟩ _ (by kernel_rfl) .nil ?_
        refine Wc.ret ?_
        obtain rfl := Option.some.inj h
        exact ⟨.inl rfl, by kernel_rfl, by kernel_rfl⟩
      · refine Wc.condF h47 (by kernel_rfl) ?_
        refine Wc.fix (st' := ⟨[(2, (.ptr 2 0, [])), (3, (.ptr 3 0, []))], [(2, .cells [.int .i64 i49_.gOp, .str i49_.gName, .int .i64 i49_.gNum, .int .i64 i49_.gMany] []), (3, .cells [.int .i64 i50_.gOp, .str i50_.gName, .int .i64 i50_.gNum, .int .i64 i50_.gMany] [])], []⟩) [] [2, 3] [2, 3] [] (by kernel_rfl) ?_
        refine Wc.skip ?_
        refine Wc.seq ?_
        refine Wc.seq ?_
        refine Wc.region [] [] [24] [] [] ⟨[(24, (.v (.bool (i49_.gMany != i50_.gMany)), []))], [], []⟩ _ (by kernel_rfl) .nil ?_
        rcases oif h with ⟨h48, h⟩ | ⟨h48, h⟩
        · refine Wc.condT h48 (by kernel_rfl) ?_
          refine Wc.seq ?_
          refine Wc.region [] [] [4] [] [] ⟨[(4, (.v (.bool false), []))], [], []⟩ _ (by kernel_rfl) .nil ?_
          refine Wc.ret ?_
          obtain rfl := Option.some.inj h
          exact ⟨.inl rfl, by kernel_rfl, by kernel_rfl⟩
        · refine Wc.condF h48 (by kernel_rfl) ?_
          refine Wc.fix (st' := ⟨[], [], []⟩) [] [] [] [] (by kernel_rfl) ?_
          refine Wc.skip ?_
          refine Wc.seq ?_
          refine Wc.region [] [] [4] [] [] ⟨[(4, (.v (.bool true), []))], [], []⟩ _ (by kernel_rfl) .nil ?_
          refine Wc.ret ?_
          obtain rfl := Option.some.inj h
          exact ⟨.inl rfl, by kernel_rfl, by kernel_rfl⟩

def plaws_eqInsS_L1 (k : Nat) (j51_ : List GIns) (j52_ : List GIns) : Nat → Int → Option (Out Bool Unit)
  | 0, _ => none
  | m + 1, b53_ =>
    if (decide (b53_ < (j51_.length : Int))) = true then
      (at' j51_ b53_).bind fun i54_ =>
      (at' j52_ b53_).bind fun i55_ =>
      (plaws_eqIns k i54_ i55_).bind fun e56_ =>
      if (!e56_) = true then
        some (.ret false)
      else
        plaws_eqInsS_L1 k j51_ j52_ m (wr.i64 (b53_ + 1))
    else
      some (.done ())
/-- laws.eqInsS -/
def plaws_eqInsS (k : Nat) (j51_ : List GIns) (j52_ : List GIns) : Option Bool :=
  if ((j51_.length : Int) != (j52_.length : Int)) = true then
    some false
  else
    (plaws_eqInsS_L1 k j51_ j52_ k 0).bind fun out1 => match out1 with
    | .ret r => some r
    | .done () =>
      some true
theorem claws_eqInsS {k : Nat} {j51_ : List GIns} {j52_ : List GIns} {r : Bool} (h : plaws_eqInsS k j51_ j52_ = some r) : FnO Try.prog 27 [.v (.sl (List.map GIns.c j51_)) [], .v (.sl (List.map GIns.c j52_)) []] (.v (.bool r) []) [] := by
  refine FnO.of Try.func27 (rfl : Try.f27.body = some _) (Nat.le_of_ble_eq_true (by kernel_rfl)) (Nat.le_of_ble_eq_true (by kernel_rfl)) ?_
  intro w0 X0 Fin pv0 pb
  unfold plaws_eqInsS at h
  refine Wc.seq ?_
  refine Wc.region [] [] [0, 1] [] [] ⟨[(0, (.v (.sl (List.map GIns.c j51_)), [])), (1, (.v (.sl (List.map GIns.c j52_)), []))], [], []⟩ _ (by kernel_rfl) .nil ?_
  refine Wc.seq ?_
  refine Wc.seq ?_
  refine Wc.region [{}, { v := some (.int .i64 (j51_.length : Int)) }, {}, { v := some (.int .i64 (j52_.length : Int)) }] [] [0, 1, 10] [] [] ⟨[(0, (.v (.sl (List.map GIns.c j51_)), [])), (1, (.v (.sl (List.map GIns.c j52_)), [])), (10, (.v (.bool ((j51_.length : Int) != (j52_.length : Int))), []))], [], []⟩ _ (by kernel_rfl) (.cons (len_obl GIns.c j51_) (.cons (len_obl GIns.c j52_) .nil)) ?_
  rcases oif h with ⟨h49, h⟩ | ⟨h49, h⟩
  · refine Wc.condT h49 (by kernel_rfl) ?_
    refine Wc.seq ?_
    refine Wc.region [] [] [4] [] [] ⟨[(4, (.v (.bool false), []))], [], []⟩ _ (by kernel_rfl) .nil ?_
    refine Wc.ret ?_
    obtain rfl := Option.some.inj h
    exact ⟨.inl rfl, by kernel_rfl, by kernel_rfl⟩
  · refine Wc.condF h49 (by kernel_rfl) ?_
    refine Wc.fix (st' := ⟨[(0, (.v (.sl (List.map GIns.c j51_)), [])), (1, (.v (.sl (List.map GIns.c j52_)), []))], [], []⟩) [] [0, 1] [] [] (by kernel_rfl) ?_
    refine Wc.skip ?_
    refine Wc.seq ?_
    refine Wc.seq ?_
    refine Wc.region [] [] [0, 1, 5] [] [] ⟨[(0, (.v (.sl (List.map GIns.c j51_)), [])), (1, (.v (.sl (List.map GIns.c j52_)), [])), (5, (.v (.int .i64 0), []))], [], []⟩ _ (by kernel_rfl) .nil ?_
    obtain ⟨out1, h50, h⟩ := obind h
    refine Wc.lastJ (fun st => out1 = .done () ∧ st = ⟨[], [], []⟩) ?_ ?_
    · refine Wc.block ?_
      refine Wc.loop (fun m st => ∃ (b53_ : Int), st = ⟨[(0, (.v (.sl (List.map GIns.c j51_)), [])), (1, (.v (.sl (List.map GIns.c j52_)), [])), (5, (.v (.int .i64 b53_), []))], [], []⟩ ∧ plaws_eqInsS_L1 k j51_ j52_ m b53_ = some out1) ?_ k ⟨_, rfl, h50⟩
      rintro m st ⟨b53_, rfl, h50⟩
      cases m with
      | zero => exact (onone h50).elim
      | succ m =>
        refine Wc.seq ?_
        refine Wc.seq ?_
        refine Wc.region [{}, {}, { v := some (.int .i64 (j51_.length : Int)) }] [] [0, 1, 5, 14] [] [] ⟨[(0, (.v (.sl (List.map GIns.c j51_)), [])), (1, (.v (.sl (List.map GIns.c j52_)), [])), (5, (.v (.int .i64 b53_), [])), (14, (.v (.bool (decide (b53_ < (j51_.length : Int)))), []))], [], []⟩ _ (by kernel_rfl) (.cons (len_obl GIns.c j51_) .nil) ?_
        rcases oif h50 with ⟨h51, h50⟩ | ⟨h51, h50⟩
        · refine Wc.condT h51 (by kernel_rfl) ?_
          refine Wc.fix (st' := ⟨[(0, (.v (.sl (List.map GIns.c j51_)), [])), (1, (.v (.sl (List.map GIns.c j52_)), [])), (5, (.v (.int .i64 b53_), []))], [], []⟩) [] [0, 1, 5] [] [] (by kernel_rfl) ?_
          refine Wc.skip ?_
          refine Wc.seq ?_
          refine Wc.block ?_
          refine Wc.seq ?_
          obtain ⟨i54_, h52, h50⟩ := obind h50
          obtain ⟨i55_, h53, h50⟩ := obind h50
          obtain ⟨e56_, h54, h50⟩ := obind h50
          refine Wc.draw hmix [{}, {}, { v := some (.vptr [.int .i64 i54_.gOp, .str i54_.gName, .int .i64 i54_.gNum, .int .i64 i54_.gMany]) }, {}, {}, {}, { v := some (.vptr [.int .i64 i55_.gOp, .str i55_.gName, .int .i64 i55_.gNum, .int .i64 i55_.gMany]) }, {}, { r := some (.v (.bool e56_) []) }] [] [0, 1, 5, 26] [] [] ⟨[(0, (.v (.sl (List.map GIns.c j51_)), [])), (1, (.v (.sl (List.map GIns.c j52_)), [])), (5, (.v (.int .i64 b53_), [])), (26, (.v (.bool (!e56_)), []))], [], []⟩ _ (by kernel_rfl) (fun X => by kernel_rfl) (.cons (at_obl (c := GIns.c) (GIns.c_eq i54_) GIns.c_len h52) (.cons (len_ok 4 [.int .i64 i54_.gOp, .str i54_.gName, .int .i64 i54_.gNum, .int .i64 i54_.gMany]) (.cons (at_obl (c := GIns.c) (GIns.c_eq i55_) GIns.c_len h53) (.cons (len_ok 4 [.int .i64 i55_.gOp, .str i55_.gName, .int .i64 i55_.gNum, .int .i64 i55_.gMany]) (.cons (claws_eqIns h54) .nil))))) ?_
          rcases oif h50 with ⟨h55, h50⟩ | ⟨h55, h50⟩
          · refine Wc.condT h55 (by kernel_rfl) ?_
            refine Wc.seq ?_
            refine Wc.region [] [] [4] [] [] ⟨[(4, (.v (.bool false), []))], [], []⟩ _ (by kernel_rfl) .nil ?_
            refine Wc.ret ?_
            obtain rfl := Option.some.inj h50
            obtain rfl := Option.some.inj h
            exact ⟨.inl rfl, by kernel_rfl, by kernel_rfl⟩
          · refine Wc.condF h55 (by kernel_rfl) ?_
            refine Wc.fix (st' := ⟨[(0, (.v (.sl (List.map GIns.c j51_)), [])), (1, (.v (.sl (List.map GIns.c j52_)), [])), (5, (.v (.int .i64 b53_), []))], [], []⟩) [] [0, 1, 5] [] [] (by kernel_rfl) ?_
            refine Wc.skip ?_
            refine Wc.region [] [] [0, 1, 5] [] [] ⟨[(0, (.v (.sl (List.map GIns.c j51_)), [])), (1, (.v (.sl (List.map GIns.c j52_)), [])), (5, (.v (.int .i64 (wr.i64 (b53_ + 1))), []))], [], []⟩ _ (by kernel_rfl) .nil ?_
            exact ⟨_, Nat.lt_succ_self _, _, rfl, h50⟩
        · refine Wc.condF h51 (by kernel_rfl) ?_
          refine Wc.fix (st' := ⟨[], [], []⟩) [] [] [] [] (by kernel_rfl) ?_
          refine Wc.exit ?_
          obtain rfl := Option.some.inj h50
          exact ⟨rfl, rfl⟩
    · rintro st ⟨rfl, rfl⟩
      refine Wc.seq ?_
      refine Wc.region [] [] [4] [] [] ⟨[(4, (.v (.bool true), []))], [], []⟩ _ (by kernel_rfl) .nil ?_
      refine Wc.ret ?_
      obtain rfl := Option.some.inj h
      exact ⟨.inl rfl, by kernel_rfl, by kernel_rfl⟩

def plaws_markInsS_L1 (k : Nat) : Nat → Int → Int → (List GIns) → Option (Out ((List GIns) × Int) (Int × (List GIns)))
  | 0, _, _, _ => none
  | m + 1, b59_, b60_, j61_ =>
    if (decide (b60_ < (j61_.length : Int))) = true then
      (at' j61_ b60_).bind fun i64_ =>
      (plaws_markText k (wr.i64 (b59_ + 1))).bind fun f65_ =>
      (at' (j61_.set ((b60_).toNat) (GIns.mk b59_ i64_.gName i64_.gNum i64_.gMany)) b60_).bind fun i66_ =>
      (at' ((j61_.set ((b60_).toNat) (GIns.mk b59_ i64_.gName i64_.gNum i64_.gMany)).set ((b60_).toNat) (GIns.mk i66_.gOp f65_ i66_.gNum i66_.gMany)) b60_).bind fun i67_ =>
      (at' (((j61_.set ((b60_).toNat) (GIns.mk b59_ i64_.gName i64_.gNum i64_.gMany)).set ((b60_).toNat) (GIns.mk i66_.gOp f65_ i66_.gNum i66_.gMany)).set ((b60_).toNat) (GIns.mk i67_.gOp i67_.gName (wr.i64 ((wr.i64 (b59_ + 1)) + 1)) i67_.gMany)) b60_).bind fun i68_ =>
      plaws_markInsS_L1 k m (wr.i64 ((wr.i64 ((wr.i64 ((wr.i64 (b59_ + 1)) + 1)) + 1)) + 1)) (wr.i64 (b60_ + 1)) ((((j61_.set ((b60_).toNat) (GIns.mk b59_ i64_.gName i64_.gNum i64_.gMany)).set ((b60_).toNat) (GIns.mk i66_.gOp f65_ i66_.gNum i66_.gMany)).set ((b60_).toNat) (GIns.mk i67_.gOp i67_.gName (wr.i64 ((wr.i64 (b59_ + 1)) + 1)) i67_.gMany)).set ((b60_).toNat) (GIns.mk i68_.gOp i68_.gName i68_.gNum (wr.i64 ((wr.i64 ((wr.i64 (b59_ + 1)) + 1)) + 1))))
    else
      some (.done (b59_, j61_))
/-- laws.markInsS -/
def plaws_markInsS (k : Nat) (j57_ : List GIns) (b58_ : Int) : Option ((List GIns) × Int) :=
  (plaws_markInsS_L1 k k b58_ 0 j57_).bind fun out1 => match out1 with
  | .ret r => some r
  | .done (b62_, j63_) =>
    some (j63_, b62_)
theorem claws_markInsS {k : Nat} {j57_ : List GIns} {b58_ : Int} {r : (List GIns) × Int} (h : plaws_markInsS k j57_ b58_ = some r) : FnO Try.prog 28 [.io (.slx) [(0, .ex 1000000007 true (List.map GIns.c j57_))], .v (.int .i64 b58_) []] (.v (.int .i64 r.2) []) [(0, .v .undef [(0, .ex 1000000007 true (List.map GIns.c r.1))])] := by
  refine FnO.of Try.func28 (rfl : Try.f28.body = some _) (Nat.le_of_ble_eq_true (by kernel_rfl)) (Nat.le_of_ble_eq_true (by kernel_rfl)) ?_
  intro w0 X0 Fin pv0 pb
  unfold plaws_markInsS at h
  refine Wc.seq ?_
  refine Wc.region [] [] [0, 1] [] [0] ⟨[(0, (.v (.slx), [(0, .al (.a 0 0) [])])), (1, (.v (.int .i64 b58_), []))], [], [(0, [(0, .ex 1000000007 true (List.map GIns.c j57_))])]⟩ _ (by kernel_rfl) .nil ?_
  refine Wc.seq ?_
  refine Wc.seq ?_
  refine Wc.region [] [] [0, 1, 5] [] [0] ⟨[(0, (.v (.slx), [(0, .al (.a 0 0) [])])), (1, (.v (.int .i64 b58_), [])), (5, (.v (.int .i64 0), []))], [], [(0, [(0, .ex 1000000007 true (List.map GIns.c j57_))])]⟩ _ (by kernel_rfl) .nil ?_
  obtain ⟨out1, h56, h⟩ := obind h
  refine Wc.lastJ (fun st => ∃ (b62_ : Int) (j63_ : List GIns), out1 = .done (b62_, j63_) ∧ st = ⟨[(1, (.v (.int .i64 b62_), []))], [], [(0, [(0, .ex 1000000007 true (List.map GIns.c j63_))])]⟩) ?_ ?_
  · refine Wc.block ?_
    refine Wc.loop (fun m st => ∃ (b59_ : Int) (b60_ : Int) (j61_ : List GIns), st = ⟨[(0, (.v (.slx), [(0, .al (.a 0 0) [])])), (1, (.v (.int .i64 b59_), [])), (5, (.v (.int .i64 b60_), []))], [], [(0, [(0, .ex 1000000007 true (List.map GIns.c j61_))])]⟩ ∧ plaws_markInsS_L1 k m b59_ b60_ j61_ = some out1) ?_ k ⟨_, _, _, rfl, h56⟩
    rintro m st ⟨b59_, b60_, j61_, rfl, h56⟩
    cases m with
    | zero => exact (onone h56).elim
    | succ m =>
      refine Wc.seq ?_
      refine Wc.seq ?_
      refine Wc.region [{}, {}, { v := some (.int .i64 (j61_.length : Int)) }] [] [0, 1, 5, 9] [] [0] ⟨[(0, (.v (.slx), [(0, .al (.a 0 0) [])])), (1, (.v (.int .i64 b59_), [])), (5, (.v (.int .i64 b60_), [])), (9, (.v (.bool (decide (b60_ < (j61_.length : Int)))), []))], [], [(0, [(0, .ex 1000000007 true (List.map GIns.c j61_))])]⟩ _ (by kernel_rfl) (.cons (len_obl GIns.c j61_) .nil) ?_
      rcases oif h56 with ⟨h57, h56⟩ | ⟨h57, h56⟩
      · refine Wc.condT h57 (by kernel_rfl) ?_
        refine Wc.fix (st' := ⟨[(0, (.v (.slx), [(0, .al (.a 0 0) [])])), (1, (.v (.int .i64 b59_), [])), (5, (.v (.int .i64 b60_), []))], [], [(0, [(0, .ex 1000000007 true (List.map GIns.c j61_))])]⟩) [] [0, 1, 5] [] [0] (by kernel_rfl) ?_
        refine Wc.skip ?_
        refine Wc.seq ?_
        refine Wc.block ?_
        refine Wc.seq ?_
        obtain ⟨i64_, h58, h56⟩ := obind h56
        refine Wc.region [{}, {}, {}, {}, {}, { c := some (List.map GIns.c (j61_.set ((b60_).toNat) (GIns.mk b59_ i64_.gName i64_.gNum i64_.gMany))) }] [] [0, 1, 5] [] [0] ⟨[(0, (.v (.slx), [(0, .al (.a 0 0) [])])), (1, (.v (.int .i64 b59_), [])), (5, (.v (.int .i64 b60_), []))], [], [(0, [(0, .ex 1000000007 true (List.map GIns.c (j61_.set ((b60_).toNat) (GIns.mk b59_ i64_.gName i64_.gNum i64_.gMany))))])]⟩ _ (by kernel_rfl) (.cons (ix_obl (c := GIns.c) GIns.c_len h58) (.cons (mod_obl (off := 0) (new := [.int .i64 b59_]) (c := GIns.c) (GIns.c_eq i64_) (GIns.c_eq (GIns.mk b59_ i64_.gName i64_.gNum i64_.gMany)) (at'_spec h58).2 rfl) (.cons (st_obl (sz := 4) (off := 0) (s := 1) (c := GIns.c) (GIns.c_eq i64_) (at'_spec h58).2 rfl (Nat.le_of_ble_eq_true rfl)) .nil))) ?_
        refine Wc.seq ?_
        refine Wc.region [] [] [0, 1, 5] [] [0] ⟨[(0, (.v (.slx), [(0, .al (.a 0 0) [])])), (1, (.v (.int .i64 (wr.i64 (b59_ + 1))), [])), (5, (.v (.int .i64 b60_), []))], [], [(0, [(0, .ex 1000000007 true (List.map GIns.c (j61_.set ((b60_).toNat) (GIns.mk b59_ i64_.gName i64_.gNum i64_.gMany))))])]⟩ _ (by kernel_rfl) .nil ?_
        refine Wc.seq ?_
        obtain ⟨f65_, h59, h56⟩ := obind h56
        obtain ⟨i66_, h60, h56⟩ := obind h56
        refine Wc.region [{}, {}, {}, { r := some (.v (.str f65_) []) }, {}, {}, { c := some (List.map GIns.c ((j61_.set ((b60_).toNat) (GIns.mk b59_ i64_.gName i64_.gNum i64_.gMany)).set ((b60_).toNat) (GIns.mk i66_.gOp f65_ i66_.gNum i66_.gMany))) }] [] [0, 1, 5] [] [0] ⟨[(0, (.v (.slx), [(0, .al (.a 0 0) [])])), (1, (.v (.int .i64 (wr.i64 (b59_ + 1))), [])), (5, (.v (.int .i64 b60_), []))], [], [(0, [(0, .ex 1000000007 true (List.map GIns.c ((j61_.set ((b60_).toNat) (GIns.mk b59_ i64_.gName i64_.gNum i64_.gMany)).set ((b60_).toNat) (GIns.mk i66_.gOp f65_ i66_.gNum i66_.gMany))))])]⟩ _ (by kernel_rfl) (.cons (claws_markText h59) (.cons (ix_obl (c := GIns.c) GIns.c_len h60) (.cons (mod_obl (off := 1) (new := [.str f65_]) (c := GIns.c) (GIns.c_eq i66_) (GIns.c_eq (GIns.mk i66_.gOp f65_ i66_.gNum i66_.gMany)) (at'_spec h60).2 rfl) (.cons (st_obl (sz := 4) (off := 1) (s := 1) (c := GIns.c) (GIns.c_eq i66_) (at'_spec h60).2 rfl (Nat.le_of_ble_eq_true rfl)) .nil)))) ?_
        refine Wc.seq ?_
        refine Wc.region [] [] [0, 1, 5] [] [0] ⟨[(0, (.v (.slx), [(0, .al (.a 0 0) [])])), (1, (.v (.int .i64 (wr.i64 ((wr.i64 (b59_ + 1)) + 1))), [])), (5, (.v (.int .i64 b60_), []))], [], [(0, [(0, .ex 1000000007 true (List.map GIns.c ((j61_.set ((b60_).toNat) (GIns.mk b59_ i64_.gName i64_.gNum i64_.gMany)).set ((b60_).toNat) (GIns.mk i66_.gOp f65_ i66_.gNum i66_.gMany))))])]⟩ _ (by kernel_rfl) .nil ?_
        refine Wc.seq ?_
        obtain ⟨i67_, h61, h56⟩ := obind h56
        refine Wc.region [{}, {}, {}, {}, {}, { c := some (List.map GIns.c (((j61_.set ((b60_).toNat) (GIns.mk b59_ i64_.gName i64_.gNum i64_.gMany)).set ((b60_).toNat) (GIns.mk i66_.gOp f65_ i66_.gNum i66_.gMany)).set ((b60_).toNat) (GIns.mk i67_.gOp i67_.gName (wr.i64 ((wr.i64 (b59_ + 1)) + 1)) i67_.gMany))) }] [] [0, 1, 5] [] [0] ⟨[(0, (.v (.slx), [(0, .al (.a 0 0) [])])), (1, (.v (.int .i64 (wr.i64 ((wr.i64 (b59_ + 1)) + 1))), [])), (5, (.v (.int .i64 b60_), []))], [], [(0, [(0, .ex 1000000007 true (List.map GIns.c (((j61_.set ((b60_).toNat) (GIns.mk b59_ i64_.gName i64_.gNum i64_.gMany)).set ((b60_).toNat) (GIns.mk i66_.gOp f65_ i66_.gNum i66_.gMany)).set ((b60_).toNat) (GIns.mk i67_.gOp i67_.gName (wr.i64 ((wr.i64 (b59_ + 1)) + 1)) i67_.gMany))))])]⟩ _ (by kernel_rfl) (.cons (ix_obl (c := GIns.c) GIns.c_len h61) (.cons (mod_obl (off := 2) (new := [.int .i64 (wr.i64 ((wr.i64 (b59_ + 1)) + 1))]) (c := GIns.c) (GIns.c_eq i67_) (GIns.c_eq (GIns.mk i67_.gOp i67_.gName (wr.i64 ((wr.i64 (b59_ + 1)) + 1)) i67_.gMany)) (at'_spec h61).2 rfl) (.cons (st_obl (sz := 4) (off := 2) (s := 1) (c := GIns.c) (GIns.c_eq i67_) (at'_spec h61).2 rfl (Nat.le_of_ble_eq_true rfl)) .nil))) ?_
        refine Wc.seq ?_
        refine Wc.region [] [] [0, 1, 5] [] [0] ⟨[(0, (.v (.slx), [(0, .al (.a 0 0) [])])), (1, (.v (.int .i64 (wr.i64 ((wr.i64 ((wr.i64 (b59_ + 1)) + 1)) + 1))), [])), (5, (.v (.int .i64 b60_), []))], [], [(0, [(0, .ex 1000000007 true (List.map GIns.c (((j61_.set ((b60_).toNat) (GIns.mk b59_ i64_.gName i64_.gNum i64_.gMany)).set ((b60_).toNat) (GIns.mk i66_.gOp f65_ i66_.gNum i66_.gMany)).set ((b60_).toNat) (GIns.mk i67_.gOp i67_.gName (wr.i64 ((wr.i64 (b59_ + 1)) + 1)) i67_.gMany))))])]⟩ _ (by kernel_rfl) .nil ?_
        refine Wc.seq ?_
        obtain ⟨i68_, h62, h56⟩ := obind h56
        refine Wc.region [{}, {}, {}, {}, {}, { c := some (List.map GIns.c ((((j61_.set ((b60_).toNat) (GIns.mk b59_ i64_.gName i64_.gNum i64_.gMany)).set ((b60_).toNat) (GIns.mk i66_.gOp f65_ i66_.gNum i66_.gMany)).set ((b60_).toNat) (GIns.mk i67_.gOp i67_.gName (wr.i64 ((wr.i64 (b59_ + 1)) + 1)) i67_.gMany)).set ((b60_).toNat) (GIns.mk i68_.gOp i68_.gName i68_.gNum (wr.i64 ((wr.i64 ((wr.i64 (b59_ + 1)) + 1)) + 1))))) }] [] [0, 1, 5] [] [0] ⟨[(0, (.v (.slx), [(0, .al (.a 0 0) [])])), (1, (.v (.int .i64 (wr.i64 ((wr.i64 ((wr.i64 (b59_ + 1)) + 1)) + 1))), [])), (5, (.v (.int .i64 b60_), []))], [], [(0, [(0, .ex 1000000007 true (List.map GIns.c ((((j61_.set ((b60_).toNat) (GIns.mk b59_ i64_.gName i64_.gNum i64_.gMany)).set ((b60_).toNat) (GIns.mk i66_.gOp f65_ i66_.gNum i66_.gMany)).set ((b60_).toNat) (GIns.mk i67_.gOp i67_.gName (wr.i64 ((wr.i64 (b59_ + 1)) + 1)) i67_.gMany)).set ((b60_).toNat) (GIns.mk i68_.gOp i68_.gName i68_.gNum (wr.i64 ((wr.i64 ((wr.i64 (b59_ + 1)) + 1)) + 1))))))])]⟩ _ (by kernel_rfl) (.cons (ix_obl (c := GIns.c) GIns.c_len h62) (.cons (mod_obl (off := 3) (new := [.int .i64 (wr.i64 ((wr.i64 ((wr.i64 (b59_ + 1)) + 1)) + 1))]) (c := GIns.c) (GIns.c_eq i68_) (GIns.c_eq (GIns.mk i68_.gOp i68_.gName i68_.gNum (wr.i64 ((wr.i64 ((wr.i64 (b59_ + 1)) + 1)) + 1)))) (at'_spec h62).2 rfl) (.cons (st_obl (sz := 4) (off := 3) (s := 1) (c := GIns.c) (GIns.c_eq i68_) (at'_spec h62).2 rfl (Nat.le_of_ble_eq_true rfl)) .nil))) ?_
        refine Wc.region [] [] [0, 1, 5] [] [0] ⟨[(0, (.v (.slx), [(0, .al (.a 0 0) [])])), (1, (.v (.int .i64 (wr.i64 ((wr.i64 ((wr.i64 ((wr.i64 (b59_ + 1)) + 1)) + 1)) + 1))), [])), (5, (.v (.int .i64 b60_), []))], [], [(0, [(0, .ex 1000000007 true (List.map GIns.c ((((j61_.set ((b60_).toNat) (GIns.mk b59_ i64_.gName i64_.gNum i64_.gMany)).set ((b60_).toNat) (GIns.mk i66_.gOp f65_ i66_.gNum i66_.gMany)).set ((b60_).toNat) (GIns.mk i67_.gOp i67_.gName (wr.i64 ((wr.i64 (b59_ + 1)) + 1)) i67_.gMany)).set ((b60_).toNat) (GIns.mk i68_.gOp i68_.gName i68_.gNum (wr.i64 ((wr.i64 ((wr.i64 (b59_ + 1)) + 1)) + 1))))))])]⟩ _ (by kernel_rfl) .nil ?_
        refine Wc.region [] [] [0, 1, 5] [] [0] ⟨[(0, (.v (.slx), [(0, .al (.a 0 0) [])])), (1, (.v (.int .i64 (wr.i64 ((wr.i64 ((wr.i64 ((wr.i64 (b59_ + 1)) + 1)) + 1)) + 1))), [])), (5, (.v (.int .i64 (wr.i64 (b60_ + 1))), []))], [], [(0, [(0, .ex 1000000007 true (List.map GIns.c ((((j61_.set ((b60_).toNat) (GIns.mk b59_ i64_.gName i64_.gNum i64_.gMany)).set ((b60_).toNat) (GIns.mk i66_.gOp f65_ i66_.gNum i66_.gMany)).set ((b60_).toNat) (GIns.mk i67_.gOp i67_.gName (wr.i64 ((wr.i64 (b59_ + 1)) + 1)) i67_.gMany)).set ((b60_).toNat) (GIns.mk i68_.gOp i68_.gName i68_.gNum (wr.i64 ((wr.i64 ((wr.i64 (b59_ + 1)) + 1)) + 1))))))])]⟩ _ (by kernel_rfl) .nil ?_
        exact ⟨_, Nat.lt_succ_self _, _, _, _, rfl, h56⟩
      · refine Wc.condF h57 (by kernel_rfl) ?_
        refine Wc.fix (st' := ⟨[(1, (.v (.int .i64 b59_), []))], [], [(0, [(0, .ex 1000000007 true (List.map GIns.c j61_))])]⟩) [] [1] [] [0] (by kernel_rfl) ?_
        refine Wc.exit ?_
        obtain rfl := Option.some.inj h56
        exact ⟨_, _, rfl, rfl⟩
  · rintro st ⟨b62_, j63_, rfl, rfl⟩
    refine Wc.seq ?_
    refine Wc.region [] [] [4] [] [0] ⟨[(4, (.v (.int .i64 b62_), []))], [], [(0, [(0, .ex 1000000007 true (List.map GIns.c j63_))])]⟩ _ (by kernel_rfl) .nil ?_
    refine Wc.ret ?_
    obtain rfl := Option.some.inj h
    exact ⟨.inl rfl, by kernel_rfl, by kernel_rfl⟩

def pspec_l03Count_L1 (k : Nat) (rspec_l03Count : GTerm → Int → Option Int) (c69_ : GTerm) : Nat → Int → Int → Option (Out Int Int)
  | 0, _, _ => none
  | m + 1, b71_, b72_ =>
    if (decide (b72_ < (c69_.gKids.length : Int))) = true then
      if (decide (b71_ ≥ 0)) = true then
        (at' c69_.gKids b72_).bind fun c74_ =>
        (rspec_l03Count c74_ b71_).bind fun b75_ =>
        pspec_l03Count_L1 k rspec_l03Count c69_ m b75_ (wr.i64 (b72_ + 1))
      else
        some (.done b71_)
    else
      some (.done b71_)
mutual
/-- spec.l03Count -/
def pspec_l03Count : Nat → GTerm → Int → Option Int
  | 0, _, _ => none
  | k + 1, c69_, b70_ =>
    (pspec_l03Count_L1 k (pspec_l03Count k) c69_ k (wr.i64 (b70_ - 1)) 0).bind fun out1 => match out1 with
    | .ret r => some r
    | .done b73_ =>
      some b73_
end
theorem all_pspec_l03Count : ∀ k : Nat, (∀ {c69_ : GTerm} {b70_ : Int} {r : Int}, pspec_l03Count k c69_ b70_ = some r → FnO Try.prog 104 [.v (.agg [.int .i64 c69_.gKind, .str c69_.gName, .int .i64 c69_.gNum, .sl (List.map GTerm.c c69_.gKids)]) [], .v (.int .i64 b70_) []] (.v (.int .i64 r) []) []) := by
  intro k
  induction k with
  | zero =>
    · intro c69_ b70_ r h
      exact (onone (by rw [pspec_l03Count] at h; exact h)).elim
  | succ k ih =>
    have ih_pspec_l03Count := @ih
    · intro c69_ b70_ r h
      rw [pspec_l03Count] at h
      refine FnO.of Try.func104 (rfl : Try.f104.body = some _) (Nat.le_of_ble_eq_true (by kernel_rfl)) (Nat.le_of_ble_eq_true (by kernel_rfl)) ?_
      intro w0 X0 Fin pv0 pb
      refine Wc.seq ?_
      refine Wc.region [] [] [1, 2] [2] [] ⟨[(1, (.v (.int .i64 b70_), [])), (2, (.ptr 2 0, []))], [(2, .cells [.int .i64 c69_.gKind, .str c69_.gName, .int .i64 c69_.gNum, .sl (List.map GTerm.c c69_.gKids)] [])], []⟩ _ (by kernel_rfl) .nil ?_
      refine Wc.seq ?_
      refine Wc.region [] [] [1, 2] [2] [] ⟨[(1, (.v (.int .i64 (wr.i64 (b70_ - 1))), [])), (2, (.ptr 2 0, []))], [(2, .cells [.int .i64 c69_.gKind, .str c69_.gName, .int .i64 c69_.gNum, .sl (List.map GTerm.c c69_.gKids)] [])], []⟩ _ (by kernel_rfl) .nil ?_
      refine Wc.seq ?_
      refine Wc.seq ?_
      refine Wc.region [] [] [1, 2, 5] [2] [] ⟨[(1, (.v (.int .i64 (wr.i64 (b70_ - 1))), [])), (2, (.ptr 2 0, [])), (5, (.v (.int .i64 0), []))], [(2, .cells [.int .i64 c69_.gKind, .str c69_.gName, .int .i64 c69_.gNum, .sl (List.map GTerm.c c69_.gKids)] [])], []⟩ _ (by kernel_rfl) .nil ?_
      obtain ⟨out1, h63, h⟩ := obind h
      refine Wc.lastJ (fun st => ∃ (b73_ : Int), out1 = .done b73_ ∧ st = ⟨[(1, (.v (.int .i64 b73_), []))], [], []⟩) ?_ ?_
      · refine Wc.block ?_
        refine Wc.loop (fun m st => ∃ (b71_ : Int) (b72_ : Int), st = ⟨[(1, (.v (.int .i64 b71_), [])), (2, (.ptr 2 0, [])), (5, (.v (.int .i64 b72_), []))], [(2, .cells [.int .i64 c69_.gKind, .str c69_.gName, .int .i64 c69_.gNum, .sl (List.map GTerm.c c69_.gKids)] [])], []⟩ ∧ pspec_l03Count_L1 k (pspec_l03Count k) c69_ m b71_ b72_ = some out1) ?_ k ⟨_, _, rfl, h63⟩
        rintro m st ⟨b71_, b72_, rfl, h63⟩
        cases m with
        | zero => exact (onone h63).elim
        | succ m =>
          refine Wc.seq ?_
          refine Wc.seq ?_
          rcases oif h63 with ⟨h64, h63⟩ | ⟨h64, h63⟩
          · refine Wc.region [{}, {}, {}, { v := some (.int .i64 (c69_.gKids.length : Int)) }, {}, { re := some (.bool true) }] [] [1, 2, 5, 16] [2] [] ⟨[(1, (.v (.int .i64 b71_), [])), (2, (.ptr 2 0, [])), (5, (.v (.int .i64 b72_), [])), (16, (.v (.bool (decide (b71_ ≥ 0))), []))], [(2, .cells [.int .i64 c69_.gKind, .str c69_.gName, .int .i64 c69_.gNum, .sl (List.map GTerm.c c69_.gKids)] [])], []⟩ _ (by kernel_rfl) (.cons (len_obl GTerm.c c69_.gKids) (.cons (congrArg AV.bool h64) .nil)) ?_
            rcases oif h63 with ⟨h65, h63⟩ | ⟨h65, h63⟩
            · refine Wc.condT h65 (by kernel_rfl) ?_
              refine Wc.fix (st' := ⟨[(1, (.v (.int .i64 b71_), [])), (2, (.ptr 2 0, [])), (5, (.v (.int .i64 b72_), []))], [(2, .cells [.int .i64 c69_.gKind, .str c69_.gName, .int .i64 c69_.gNum, .sl (List.map GTerm.c c69_.gKids)] [])], []⟩) [] [1, 2, 5] [2] [] (by kernel_rfl) ?_
              refine Wc.skip ?_
              refine Wc.seq ?_
              refine Wc.block ?_
              obtain ⟨c74_, h66, h63⟩ := obind h63
              obtain ⟨b75_, h67, h63⟩ := obind h63
              refine Wc.region [{}, {}, {}, { v := some (.vptr [.int .i64 c74_.gKind, .str c74_.gName, .int .i64 c74_.gNum, .sl (List.map GTerm.c c74_.gKids)]) }, {}, {}, { r := some (.v (.int .i64 b75_) []) }] [] [1, 2, 5] [2] [] ⟨[(1, (.v (.int .i64 b75_), [])), (2, (.ptr 2 0, [])), (5, (.v (.int .i64 b72_), []))], [(2, .cells [.int .i64 c69_.gKind, .str c69_.gName, .int .i64 c69_.gNum, .sl (List.map GTerm.c c69_.gKids)] [])], []⟩ _ (by kernel_rfl) (.cons (at_obl (c := GTerm.c) (GTerm.c_eq c74_) GTerm.c_len h66) (.cons (len_ok 4 [.int .i64 c74_.gKind, .str c74_.gName, .int .i64 c74_.gNum, .sl (List.map GTerm.c c74_.gKids)]) (.cons (ih_pspec_l03Count h67) .nil))) ?_
              refine Wc.region [] [] [1, 2, 5] [2] [] ⟨[(1, (.v (.int .i64 b75_), [])), (2, (.ptr 2 0, [])), (5, (.v (.int .i64 (wr.i64 (b72_ + 1))), []))], [(2, .cells [.int .i64 c69_.gKind, .str c69_.gName, .int .i64 c69_.gNum, .sl (List.map GTerm.c c69_.gKids)] [])], []⟩ _ (by kernel_rfl) .nil ?_
              exact ⟨_, Nat.lt_succ_self _, _, _, rfl, h63⟩
            · refine Wc.condF h65 (by kernel_rfl) ?_
              refine Wc.fix (st' := ⟨[(1, (.v (.int .i64 b71_), []))], [], []⟩) [] [1] [] [] (by kernel_rfl) ?_
              refine Wc.exit ?_
              obtain rfl := Option.some.inj h63
              exact ⟨_, rfl, rfl⟩
          · refine Wc.region [{}, {}, {}, { v := some (.int .i64 (c69_.gKids.length : Int)) }, {}, { re := some (.bool false) }] [] [1, 2, 5, 16] [2] [] ⟨[(1, (.v (.int .i64 b71_), [])), (2, (.ptr 2 0, [])), (5, (.v (.int .i64 b72_), [])), (16, (.v (.bool false), []))], [(2, .cells [.int .i64 c69_.gKind, .str c69_.gName, .int .i64 c69_.gNum, .sl (List.map GTerm.c c69_.gKids)] [])], []⟩ _ (by kernel_rfl) (.cons (len_obl GTerm.c c69_.gKids) (.cons (congrArg AV.bool h64) .nil)) ?_
            refine Wc.condF rfl (by kernel_rfl) ?_
            refine Wc.fix (st' := ⟨[(1, (.v (.int .i64 b71_), []))], [], []⟩) [] [1] [] [] (by kernel_rfl) ?_
            refine Wc.exit ?_
            obtain rfl := Option.some.inj h63
            exact ⟨_, rfl, rfl⟩
      · rintro st ⟨b73_, rfl, rfl⟩
        refine Wc.seq ?_
        refine Wc.region [] [] [4] [] [] ⟨[(4, (.v (.int .i64 b73_), []))], [], []⟩ _ (by kernel_rfl) .nil ?_
        refine Wc.ret ?_
        obtain rfl := Option.some.inj h
        exact ⟨.inl rfl, by kernel_rfl, by kernel_rfl⟩
theorem cspec_l03Count {k : Nat} {c69_ : GTerm} {b70_ : Int} {r : Int} (h : pspec_l03Count k c69_ b70_ = some r) : FnO Try.prog 104 [.v (.agg [.int .i64 c69_.gKind, .str c69_.gName, .int .i64 c69_.gNum, .sl (List.map GTerm.c c69_.gKids)]) [], .v (.int .i64 b70_) []] (.v (.int .i64 r) []) [] := (all_pspec_l03Count k) h

/-- spec.l01In -/
def pspec_l01In (k : Nat) (b76_ : Int) (b77_ : Int) (b78_ : Int) : Option Bool :=
  if (decide (b76_ ≥ b77_)) = true then
    some (decide (b76_ ≤ b78_))
  else
    some false
theorem cspec_l01In {k : Nat} {b76_ : Int} {b77_ : Int} {b78_ : Int} {r : Bool} (h : pspec_l01In k b76_ b77_ b78_ = some r) : FnO Try.prog 100 [.v (.int .i64 b76_) [], .v (.int .i64 b77_) [], .v (.int .i64 b78_) []] (.v (.bool r) []) [] := by
  refine FnO.of Try.func100 (rfl : Try.f100.body = some _) (Nat.le_of_ble_eq_true (by kernel_rfl)) (Nat.le_of_ble_eq_true (by kernel_rfl)) ?_
  intro w0 X0 Fin pv0 pb
  unfold pspec_l01In at h
  refine Wc.seq ?_
  refine Wc.region [] [] [0, 1, 2] [] [] ⟨[(0, (.v (.int .i64 b76_), [])), (1, (.v (.int .i64 b77_), [])), (2, (.v (.int .i64 b78_), []))], [], []⟩ _ (by kernel_rfl) .nil ?_
  refine Wc.seq ?_
  rcases oif h with ⟨h68, h⟩ | ⟨h68, h⟩
  · refine Wc.region [{}, {}, {}, { re := some (.bool true) }] [] [6] [] [] ⟨[(6, (.v (.bool (decide (b76_ ≤ b78_))), []))], [], []⟩ _ (by kernel_rfl) (.cons (congrArg AV.bool h68) .nil) ?_
    refine Wc.ret ?_
    obtain rfl := Option.some.inj h
    exact ⟨.inl rfl, by kernel_rfl, by kernel_rfl⟩
  · refine Wc.region [{}, {}, {}, { re := some (.bool false) }] [] [6] [] [] ⟨[(6, (.v (.bool false), []))], [], []⟩ _ (by kernel_rfl) (.cons (congrArg AV.bool h68) .nil) ?_
    refine Wc.ret ?_
    obtain rfl := Option.some.inj h
    exact ⟨.inl rfl, by kernel_rfl, by kernel_rfl⟩

def pspec_l03Name_L1 (k : Nat) (f79_ : ByteArray) : Nat → Int → Option (Out Bool Unit)
  | 0, _ => none
  | m + 1, b80_ =>
    if (decide (b80_ < (f79_.size : Int))) = true then
      if 0 ≤ b80_ ∧ (b80_).toNat < f79_.size then
        if (decide ((bt f79_ b80_) < 33)) = true then
          some (.ret false)
        else
          if 0 ≤ b80_ ∧ (b80_).toNat < f79_.size then
            if (decide ((bt f79_ b80_) > 126)) = true then
              some (.ret false)
            else
              if 0 ≤ b80_ ∧ (b80_).toNat < f79_.size then
                if ((bt f79_ b80_) == 39) = true then
                  some (.ret false)
                else
                  if 0 ≤ b80_ ∧ (b80_).toNat < f79_.size then
                    if ((bt f79_ b80_) == 34) = true then
                      some (.ret false)
                    else
                      pspec_l03Name_L1 k f79_ m (wr.i64 (b80_ + 1))
                  else none
              else none
          else none
      else none
    else
      some (.done ())
/-- spec.l03Name -/
def pspec_l03Name (k : Nat) (f79_ : ByteArray) : Option Bool :=
  (pspec_l03Name_L1 k f79_ k 0).bind fun out1 => match out1 with
  | .ret r => some r
  | .done () =>
    (pspec_l01In k (f79_.size : Int) 1 20).bind fun e81_ =>
    some e81_
theorem cspec_l03Name {k : Nat} {f79_ : ByteArray} {r : Bool} (h : pspec_l03Name k f79_ = some r) : FnO Try.prog 137 [.v (.str f79_) []] (.v (.bool r) []) [] := by
  refine FnO.of Try.func137 (rfl : Try.f137.body = some _) (Nat.le_of_ble_eq_true (by kernel_rfl)) (Nat.le_of_ble_eq_true (by kernel_rfl)) ?_
  intro w0 X0 Fin pv0 pb
  unfold pspec_l03Name at h
  refine Wc.seq ?_
  refine Wc.region [] [] [0] [] [] ⟨[(0, (.v (.str f79_), []))], [], []⟩ _ (by kernel_rfl) .nil ?_
  refine Wc.seq ?_
  refine Wc.seq ?_
  refine Wc.region [] [] [0, 3] [] [] ⟨[(0, (.v (.str f79_), [])), (3, (.v (.int .i64 0), []))], [], []⟩ _ (by kernel_rfl) .nil ?_
  obtain ⟨out1, h69, h⟩ := obind h
  refine Wc.lastJ (fun st => out1 = .done () ∧ st = ⟨[(0, (.v (.str f79_), []))], [], []⟩) ?_ ?_
  · refine Wc.block ?_
    refine Wc.loop (fun m st => ∃ (b80_ : Int), st = ⟨[(0, (.v (.str f79_), [])), (3, (.v (.int .i64 b80_), []))], [], []⟩ ∧ pspec_l03Name_L1 k f79_ m b80_ = some out1) ?_ k ⟨_, rfl, h69⟩
    rintro m st ⟨b80_, rfl, h69⟩
    cases m with
    | zero => exact (onone h69).elim
    | succ m =>
      refine Wc.seq ?_
      refine Wc.seq ?_
      refine Wc.region [] [] [0, 3, 7] [] [] ⟨[(0, (.v (.str f79_), [])), (3, (.v (.int .i64 b80_), [])), (7, (.v (.bool (decide (b80_ < (f79_.size : Int)))), []))], [], []⟩ _ (by kernel_rfl) .nil ?_
      rcases oif h69 with ⟨h70, h69⟩ | ⟨h70, h69⟩
      · refine Wc.condT h70 (by kernel_rfl) ?_
        refine Wc.fix (st' := ⟨[(0, (.v (.str f79_), [])), (3, (.v (.int .i64 b80_), []))], [], []⟩) [] [0, 3] [] [] (by kernel_rfl) ?_
        refine Wc.skip ?_
        refine Wc.seq ?_
        refine Wc.block ?_
        refine Wc.seq ?_
        obtain ⟨h71, h69⟩ := oguard h69
        rcases oif h69 with ⟨h72, h69⟩ | ⟨h72, h69⟩
        · refine Wc.region [{}, {}, {}, {}, { re := some (.bool true) }] [] [0, 3, 31] [] [] ⟨[(0, (.v (.str f79_), [])), (3, (.v (.int .i64 b80_), [])), (31, (.v (.bool true), []))], [], []⟩ _ (by kernel_rfl) (.cons h71 (.cons (congrArg AV.bool h72) .nil)) ?_
          refine Wc.condT rfl (by kernel_rfl) ?_
          refine Wc.seq ?_
          refine Wc.region [] [] [2] [] [] ⟨[(2, (.v (.bool false), []))], [], []⟩ _ (by kernel_rfl) .nil ?_
          refine Wc.ret ?_
          obtain rfl := Option.some.inj h69
          obtain rfl := Option.some.inj h
          exact ⟨.inl rfl, by kernel_rfl, by kernel_rfl⟩
        · obtain ⟨h73, h69⟩ := oguard h69
          rcases oif h69 with ⟨h74, h69⟩ | ⟨h74, h69⟩
          · refine Wc.region [{}, {}, {}, {}, { re := some (.bool false) }, {}, {}, {}, {}, {}, { re := some (.bool true) }] [] [0, 3, 31] [] [] ⟨[(0, (.v (.str f79_), [])), (3, (.v (.int .i64 b80_), [])), (31, (.v (.bool true), []))], [], []⟩ _ (by kernel_rfl) (.cons h71 (.cons (congrArg AV.bool h72) (.cons h73 (.cons (congrArg AV.bool h74) .nil)))) ?_
            refine Wc.condT rfl (by kernel_rfl) ?_
            refine Wc.seq ?_
            refine Wc.region [] [] [2] [] [] ⟨[(2, (.v (.bool false), []))], [], []⟩ _ (by kernel_rfl) .nil ?_
            refine Wc.ret ?_
            obtain rfl := Option.some.inj h69
            obtain rfl := Option.some.inj h
            exact ⟨.inl rfl, by kernel_rfl, by kernel_rfl⟩
          · obtain ⟨h75, h69⟩ := oguard h69
            rcases oif h69 with ⟨h76, h69⟩ | ⟨h76, h69⟩
            · refine Wc.region [{}, {}, {}, {}, { re := some (.bool false) }, {}, {}, {}, {}, {}, { re := some (.bool false) }, {}, {}, {}, {}, {}, { re := some (.bool true) }] [] [0, 3, 31] [] [] ⟨[(0, (.v (.str f79_), [])), (3, (.v (.int .i64 b80_), [])), (31, (.v (.bool true), []))], [], []⟩ _ (by kernel_rfl) (.cons h71 (.cons (congrArg AV.bool h72) (.cons h73 (.cons (congrArg AV.bool h74) (.cons h75 (.cons (congrArg AV.bool h76) .nil)))))) ?_
              refine Wc.condT rfl (by kernel_rfl) ?_
              refine Wc.seq ?_
              refine Wc.region [] [] [2] [] [] ⟨[(2, (.v (.bool false), []))], [], []⟩ _ (by kernel_rfl) .nil ?_
              refine Wc.ret ?_
              obtain rfl := Option.some.inj h69
              obtain rfl := Option.some.inj h
              exact ⟨.inl rfl, by kernel_rfl, by kernel_rfl⟩
            · obtain ⟨h77, h69⟩ := oguard h69
              refine Wc.region [{}, {}, {}, {}, { re := some (.bool false) }, {}, {}, {}, {}, {}, { re := some (.bool false) }, {}, {}, {}, {}, {}, { re := some (.bool false) }] [] [0, 3, 31] [] [] ⟨[(0, (.v (.str f79_), [])), (3, (.v (.int .i64 b80_), [])), (31, (.v (.bool ((bt f79_ b80_) == 34)), []))], [], []⟩ _ (by kernel_rfl) (.cons h71 (.cons (congrArg AV.bool h72) (.cons h73 (.cons (congrArg AV.bool h74) (.cons h75 (.cons (congrArg AV.bool h76) (.cons h77 .nil))))))) ?_
              rcases oif h69 with ⟨h78, h69⟩ | ⟨h78, h69⟩
              · refine Wc.condT h78 (by kernel_rfl) ?_
                refine Wc.seq ?_
                refine Wc.region [] [] [2] [] [] ⟨[(2, (.v (.bool false), []))], [], []⟩ _ (by kernel_rfl) .nil ?_
                refine Wc.ret ?_
                obtain rfl := Option.some.inj h69
                obtain rfl := Option.some.inj h
                exact ⟨.inl rfl, by kernel_rfl, by kernel_rfl⟩
              · refine Wc.condF h78 (by kernel_rfl) ?_
                refine Wc.fix (st' := ⟨[(0, (.v (.str f79_), [])), (3, (.v (.int .i64 b80_), []))], [], []⟩) [] [0, 3] [] [] (by kernel_rfl) ?_
                refine Wc.skip ?_
                refine Wc.region [] [] [0, 3] [] [] ⟨[(0, (.v (.str f79_), [])), (3, (.v (.int .i64 (wr.i64 (b80_ + 1))), []))], [], []⟩ _ (by kernel_rfl) .nil ?_
                exact ⟨_, Nat.lt_succ_self _, _, rfl, h69⟩
      · refine Wc.condF h70 (by kernel_rfl) ?_
        refine Wc.fix (st' := ⟨[(0, (.v (.str f79_), []))], [], []⟩) [] [0] [] [] (by kernel_rfl) ?_
        refine Wc.exit ?_
        obtain rfl := Option.some.inj h69
        exact ⟨rfl, rfl⟩
  · rintro st ⟨rfl, rfl⟩
    refine Wc.seq ?_
    obtain ⟨e81_, h79, h⟩ := obind h
    refine Wc.region [{}, {}, { r := some (.v (.bool e81_) []) }] [] [2] [] [] ⟨[(2, (.v (.bool e81_), []))], [], []⟩ _ (by kernel_rfl) (.cons (cspec_l01In h79) .nil) ?_
    refine Wc.ret ?_
    obtain rfl := Option.some.inj h
    exact ⟨.inl rfl, by kernel_rfl, by kernel_rfl⟩

/-- spec.l03One -/
def pspec_l03One (k : Nat) (c82_ : GTerm) : Option Bool :=
  if (c82_.gKind == 1) = true then
    (pspec_l01In k c82_.gNum 0 99999).bind fun e83_ =>
    if e83_ = true then
      if (sEq c82_.gName (bs [])) = true then
        some ((c82_.gKids.length : Int) == 0)
      else
        some false
    else
      some false
  else
    if (c82_.gKind == 2) = true then
      (pspec_l03Name k c82_.gName).bind fun e84_ =>
      if e84_ = true then
        if (c82_.gNum == 0) = true then
          some ((c82_.gKids.length : Int) == 0)
        else
          some false
      else
        some false
    else
      if (c82_.gKind == 3) = true then
        (pspec_l01In k c82_.gNum (-999999999) 999999999).bind fun e85_ =>
        if e85_ = true then
          if (sEq c82_.gName (bs [])) = true then
            some ((c82_.gKids.length : Int) == 0)
          else
            some false
        else
          some false
      else
        if (c82_.gKind == 4) = true then
          (pspec_l03Name k c82_.gName).bind fun e86_ =>
          if e86_ = true then
            if (c82_.gNum == 0) = true then
              (pspec_l01In k (c82_.gKids.length : Int) 1 5).bind fun e87_ =>
              some e87_
            else
              some false
          else
            some false
        else
          some false
theorem cspec_l03One {k : Nat} {c82_ : GTerm} {r : Bool} (h : pspec_l03One k c82_ = some r) : FnO Try.prog 130 [.v (.agg [.int .i64 c82_.gKind, .str c82_.gName, .int .i64 c82_.gNum, .sl (List.map GTerm.c c82_.gKids)]) []] (.v (.bool r) []) [] := by
  refine FnO.of Try.func130 (rfl : Try.f130.body = some _) (Nat.le_of_ble_eq_true (by kernel_rfl)) (Nat.le_of_ble_eq_true (by kernel_rfl)) ?_
  intro w0 X0 Fin pv0 pb
  unfold pspec_l03One at h
  refine Wc.seq ?_
  refine Wc.region [] [] [1] [1] [] ⟨[(1, (.ptr 1 0, []))], [(1, .cells [.int .i64 c82_.gKind, .str c82_.gName, .int .i64 c82_.gNum, .sl (List.map GTerm.c c82_.gKids)] [])], []⟩ _ (by kernel_rfl) .nil ?_
  refine Wc.seq ?_
  refine Wc.seq ?_
  refine Wc.region [] [] [1, 4] [1] [] ⟨[(1, (.ptr 1 0, [])), (4, (.v (.int .i64 c82_.gKind), []))], [(1, .cells [.int .i64 c82_.gKind, .str c82_.gName, .int .i64 c82_.gNum, .sl (List.map GTerm.c c82_.gKids)] [])], []⟩ _ (by kernel_rfl) .nil ?_
  refine Wc.block ?_
  refine Wc.seq ?_
  refine Wc.region [] [] [1, 4, 5] [1] [] ⟨[(1, (.ptr 1 0, [])), (4, (.v (.int .i64 c82_.gKind), [])), (5, (.v (.bool (c82_.gKind == 1)), []))], [(1, .cells [.int .i64 c82_.gKind, .str c82_.gName, .int .i64 c82_.gNum, .sl (List.map GTerm.c c82_.gKids)] [])], []⟩ _ (by kernel_rfl) .nil ?_
  rcases oif h with ⟨h80, h⟩ | ⟨h80, h⟩
  · refine Wc.condT h80 (by kernel_rfl) ?_
    refine Wc.seq ?_
    obtain ⟨e83_, h81, h⟩ := obind h
    rcases oif h with ⟨h82, h⟩ | ⟨h82, h⟩
    · rcases oif h with ⟨h83, h⟩ | ⟨h83, h⟩
      · refine Wc.region [{}, {}, { r := some (.v (.bool e83_) []) }, { re := some (.bool true) }, {}, {}, {}, {}, { re := some (.bool true) }, {}, {}, { v := some (.int .i64 (c82_.gKids.length : Int)) }] [] [2] [] [] ⟨[(2, (.v (.bool ((c82_.gKids.length : Int) == 0)), []))], [], []⟩ _ (by kernel_rfl) (.cons (cspec_l01In h81) (.cons (congrArg AV.bool h82) (.cons (congrArg AV.bool h83) (.cons (len_obl GTerm.c c82_.gKids) .nil)))) ?_
        refine Wc.ret ?_
        obtain rfl := Option.some.inj h
        exact ⟨.inl rfl, by kernel_rfl, by kernel_rfl⟩
      · refine Wc.region [{}, {}, { r := some (.v (.bool e83_) []) }, { re := some (.bool true) }, {}, {}, {}, {}, { re := some (.bool false) }] [] [2] [] [] ⟨[(2, (.v (.bool false), []))], [], []⟩ _ (by kernel_rfl) (.cons (cspec_l01In h81) (.cons (congrArg AV.bool h82) (.cons (congrArg AV.bool h83) .nil))) ?_
        refine Wc.ret ?_
        obtain rfl := Option.some.inj h
        exact ⟨.inl rfl, by kernel_rfl, by kernel_rfl⟩
    · refine Wc.region [{}, {}, { r := some (.v (.bool e83_) []) }, { re := some (.bool false) }] [] [2] [] [] ⟨[(2, (.v (.bool false), []))], [], []⟩ _ (by kernel_rfl) (.cons (cspec_l01In h81) (.cons (congrArg AV.bool h82) .nil)) ?_
      refine Wc.ret ?_
      obtain rfl := Option.some.inj h
      exact ⟨.inl rfl, by kernel_rfl, by kernel_rfl⟩
  · refine Wc.condF h80 (by kernel_rfl) ?_
    refine Wc.seq ?_
    refine Wc.region [] [] [1, 4, 21] [1] [] ⟨[(1, (.ptr 1 0, [])), (4, (.v (.int .i64 c82_.gKind), [])), (21, (.v (.bool (c82_.gKind == 2)), []))], [(1, .cells [.int .i64 c82_.gKind, .str c82_.gName, .int .i64 c82_.gNum, .sl (List.map GTerm.c c82_.gKids)] [])], []⟩ _ (by kernel_rfl) .nil ?_
    rcases oif h with ⟨h84, h⟩ | ⟨h84, h⟩
    · refine Wc.condT h84 (by kernel_rfl) ?_
      refine Wc.seq ?_
      obtain ⟨e84_, h85, h⟩ := obind h
      rcases oif h with ⟨h86, h⟩ | ⟨h86, h⟩
      · rcases oif h with ⟨h87, h⟩ | ⟨h87, h⟩
        · refine Wc.region [{}, {}, { r := some (.v (.bool e84_) []) }, { re := some (.bool true) }, {}, {}, {}, {}, { re := some (.bool true) }, {}, {}, { v := some (.int .i64 (c82_.gKids.length : Int)) }] [] [2] [] [] ⟨[(2, (.v (.bool ((c82_.gKids.length : Int) == 0)), []))], [], []⟩ _ (by kernel_rfl) (.cons (cspec_l03Name h85) (.cons (congrArg AV.bool h86) (.cons (congrArg AV.bool h87) (.cons (len_obl GTerm.c c82_.gKids) .nil)))) ?_
          refine Wc.ret ?_
          obtain rfl := Option.some.inj h
          exact ⟨.inl rfl, by kernel_rfl, by kernel_rfl⟩
        · refine Wc.region [{}, {}, { r := some (.v (.bool e84_) []) }, { re := some (.bool true) }, {}, {}, {}, {}, { re := some (.bool false) }] [] [2] [] [] ⟨[(2, (.v (.bool false), []))], [], []⟩ _ (by kernel_rfl) (.cons (cspec_l03Name h85) (.cons (congrArg AV.bool h86) (.cons (congrArg AV.bool h87) .nil))) ?_
          refine Wc.ret ?_
          obtain rfl := Option.some.inj h
          exact ⟨.inl rfl, by kernel_rfl, by kernel_rfl⟩
      · refine Wc.region [{}, {}, { r := some (.v (.bool e84_) []) }, { re := some (.bool false) }] [] [2] [] [] ⟨[(2, (.v (.bool false), []))], [], []⟩ _ (by kernel_rfl) (.cons (cspec_l03Name h85) (.cons (congrArg AV.bool h86) .nil)) ?_
        refine Wc.ret ?_
        obtain rfl := Option.some.inj h
        exact ⟨.inl rfl, by kernel_rfl, by kernel_rfl⟩
    · refine Wc.condF h84 (by kernel_rfl) ?_
      refine Wc.seq ?_
      refine Wc.region [] [] [1, 4, 37] [1] [] ⟨[(1, (.ptr 1 0, [])), (4, (.v (.int .i64 c82_.gKind), [])), (37, (.v (.bool (c82_.gKind == 3)), []))], [(1, .cells [.int .i64 c82_.gKind, .str c82_.gName, .int .i64 c82_.gNum, .sl (List.map GTerm.c c82_.gKids)] [])], []⟩ _ (by kernel_rfl) .nil ?_
      rcases oif h with ⟨h88, h⟩ | ⟨h88, h⟩
      · refine Wc.condT h88 (by kernel_rfl) ?_
        refine Wc.seq ?_
        obtain ⟨e85_, h89, h⟩ := obind h
        rcases oif h with ⟨h90, h⟩ | ⟨h90, h⟩
        · rcases oif h with ⟨h91, h⟩ | ⟨h91, h⟩
          · refine Wc.region [{}, {}, { r := some (.v (.bool e85_) []) }, { re := some (.bool true) }, {}, {}, {}, {}, { re := some (.bool true) }, {}, {}, { v := some (.int .i64 (c82_.gKids.length : Int)) }] [] [2] [] [] ⟨[(2, (.v (.bool ((c82_.gKids.length : Int) == 0)), []))], [], []⟩ _ (by kernel_rfl) (.cons (cspec_l01In h89) (.cons (congrArg AV.bool h90) (.cons (congrArg AV.bool h91) (.cons (len_obl GTerm.c c82_.gKids) .nil)))) ?_
            refine Wc.ret ?_
            obtain rfl := Option.some.inj h
            exact ⟨.inl rfl, by kernel_rfl, by kernel_rfl⟩
          · refine Wc.region [{}, {}, { r := some (.v (.bool e85_) []) }, { re := some (.bool true) }, {}, {}, {}, {}, { re := some (.bool false) }] [] [2] [] [] ⟨[(2, (.v (.bool false), []))], [], []⟩ _ (by kernel_rfl) (.cons (cspec_l01In h89) (.cons (congrArg AV.bool h90) (.cons (congrArg AV.bool h91) .nil))) ?_
            refine Wc.ret ?_
            obtain rfl := Option.some.inj h
            exact ⟨.inl rfl, by kernel_rfl, by kernel_rfl⟩
        · refine Wc.region [{}, {}, { r := some (.v (.bool e85_) []) }, { re := some (.bool false) }] [] [2] [] [] ⟨[(2, (.v (.bool false), []))], [], []⟩ _ (by kernel_rfl) (.cons (cspec_l01In h89) (.cons (congrArg AV.bool h90) .nil)) ?_
          refine Wc.ret ?_
          obtain rfl := Option.some.inj h
          exact ⟨.inl rfl, by kernel_rfl, by kernel_rfl⟩
      · refine Wc.condF h88 (by kernel_rfl) ?_
        refine Wc.seq ?_
        refine Wc.region [] [] [1, 53] [1] [] ⟨[(1, (.ptr 1 0, [])), (53, (.v (.bool (c82_.gKind == 4)), []))], [(1, .cells [.int .i64 c82_.gKind, .str c82_.gName, .int .i64 c82_.gNum, .sl (List.map GTerm.c c82_.gKids)] [])], []⟩ _ (by kernel_rfl) .nil ?_
        rcases oif h with ⟨h92, h⟩ | ⟨h92, h⟩
        · refine Wc.condT h92 (by kernel_rfl) ?_
          refine Wc.seq ?_
          obtain ⟨e86_, h93, h⟩ := obind h
          rcases oif h with ⟨h94, h⟩ | ⟨h94, h⟩
          · rcases oif h with ⟨h95, h⟩ | ⟨h95, h⟩
            · obtain ⟨e87_, h96, h⟩ := obind h
              refine Wc.region [{}, {}, { r := some (.v (.bool e86_) []) }, { re := some (.bool true) }, {}, {}, {}, {}, { re := some (.bool true) }, {}, {}, { v := some (.int .i64 (c82_.gKids.length : Int)) }, { r := some (.v (.bool e87_) []) }] [] [2] [] [] ⟨[(2, (.v (.bool e87_), []))], [], []⟩ _ (by kernel_rfl) (.cons (cspec_l03Name h93) (.cons (congrArg AV.bool h94) (.cons (congrArg AV.bool h95) (.cons (len_obl GTerm.c c82_.gKids) (.cons (cspec_l01In h96) .nil))))) ?_
              refine Wc.ret ?_
              obtain rfl := Option.some.inj h
              exact ⟨.inl rfl, by kernel_rfl, by kernel_rfl⟩
            · refine Wc.region [{}, {}, { r := some (.v (.bool e86_) []) }, { re := some (.bool true) }, {}, {}, {}, {}, { re := some (.bool false) }] [] [2] [] [] ⟨[(2, (.v (.bool false), []))], [], []⟩ _ (by kernel_rfl) (.cons (cspec_l03Name h93) (.cons (congrArg AV.bool h94) (.cons (congrArg AV.bool h95) .nil))) ?_
              refine Wc.ret ?_
              obtain rfl := Option.some.inj h
              exact ⟨.inl rfl, by kernel_rfl, by kernel_rfl⟩
          · refine Wc.region [{}, {}, { r := some (.v (.bool e86_) []) }, { re := some (.bool false) }] [] [2] [] [] ⟨[(2, (.v (.bool false), []))], [], []⟩ _ (by kernel_rfl) (.cons (cspec_l03Name h93) (.cons (congrArg AV.bool h94) .nil)) ?_
            refine Wc.ret ?_
            obtain rfl := Option.some.inj h
            exact ⟨.inl rfl, by kernel_rfl, by kernel_rfl⟩
        · refine Wc.condF h92 (by kernel_rfl) ?_
          refine Wc.fix (st' := ⟨[], [], []⟩) [] [] [] [] (by kernel_rfl) ?_
          refine Wc.skip ?_
          refine Wc.seq ?_
          refine Wc.region [] [] [2] [] [] ⟨[(2, (.v (.bool false), []))], [], []⟩ _ (by kernel_rfl) .nil ?_
          refine Wc.ret ?_
          obtain rfl := Option.some.inj h
          exact ⟨.inl rfl, by kernel_rfl, by kernel_rfl⟩

def pspec_l03Right_L1 (k : Nat) (rspec_l03Right : GTerm → Int → Option Bool) (c88_ : GTerm) (b89_ : Int) : Nat → Int → Option (Out Bool Unit)
  | 0, _ => none
  | m + 1, b91_ =>
    if (decide (b91_ < (c88_.gKids.length : Int))) = true then
      (at' c88_.gKids b91_).bind fun c92_ =>
      (rspec_l03Right c92_ (wr.i64 (b89_ + 1))).bind fun e93_ =>
      if (!e93_) = true then
        some (.ret false)
      else
        pspec_l03Right_L1 k rspec_l03Right c88_ b89_ m (wr.i64 (b91_ + 1))
    else
      some (.done ())
mutual
/-- spec.l03Right -/
def pspec_l03Right : Nat → GTerm → Int → Option Bool
  | 0, _, _ => none
  | k + 1, c88_, b89_ =>
    if (decide (b89_ > 40)) = true then
      some false
    else
      (pspec_l03One k c88_).bind fun e90_ =>
      if (!e90_) = true then
        some false
      else
        (pspec_l03Right_L1 k (pspec_l03Right k) c88_ b89_ k 0).bind fun out1 => match out1 with
        | .ret r => some r
        | .done () =>
          some true
end
theorem all_pspec_l03Right : ∀ k : Nat, (∀ {c88_ : GTerm} {b89_ : Int} {r : Bool}, pspec_l03Right k c88_ b89_ = some r → FnO Try.prog 105 [.v (.agg [.int .i64 c88_.gKind, .str c88_.gName, .int .i64 c88_.gNum, .sl (List.map GTerm.c c88_.gKids)]) [], .v (.int .i64 b89_) []] (.v (.bool r) []) []) := by
  intro k
  induction k with
  | zero =>
    · intro c88_ b89_ r h
      exact (onone (by rw [pspec_l03Right] at h; exact h)).elim
  | succ k ih =>
    have ih_pspec_l03Right := @ih
    · intro c88_ b89_ r h
      rw [pspec_l03Right] at h
      refine FnO.of Try.func105 (rfl : Try.f105.body = some _) (Nat.le_of_ble_eq_true (by kernel_rfl)) (Nat.le_of_ble_eq_true (by kernel_rfl)) ?_
      intro w0 X0 Fin pv0 pb
      refine Wc.seq ?_
      refine Wc.region [] [] [1, 2] [2] [] ⟨[(1, (.v (.int .i64 b89_), [])), (2, (.ptr 2 0, []))], [(2, .cells [.int .i64 c88_.gKind, .str c88_.gName, .int .i64 c88_.gNum, .sl (List.map GTerm.c c88_.gKids)] [])], []⟩ _ (by kernel_rfl) .nil ?_
      refine Wc.seq ?_
      refine Wc.seq ?_
      rcases oif h with ⟨h97, h⟩ | ⟨h97, h⟩
      · refine Wc.region [{}, {}, { re := some (.bool true) }] [] [1, 2, 12] [2] [] ⟨[(1, (.v (.int .i64 b89_), [])), (2, (.ptr 2 0, [])), (12, (.v (.bool true), []))], [(2, .cells [.int .i64 c88_.gKind, .str c88_.gName, .int .i64 c88_.gNum, .sl (List.map GTerm.c c88_.gKids)] [])], []⟩ _ (by kernel_rfl) (.cons (congrArg AV.bool h97) .nil) ?_
        refine Wc.condT rfl (by kernel_rfl) ?_
        refine Wc.seq ?_
        refine Wc.region [] [] [4] [] [] ⟨[(4, (.v (.bool false), []))], [], []⟩ _ (by kernel_rfl) .nil ?_
        refine Wc.ret ?_
        obtain rfl := Option.some.inj h
        exact ⟨.inl rfl, by kernel_rfl, by kernel_rfl⟩
      · obtain ⟨e90_, h98, h⟩ := obind h
        refine Wc.region [{}, {}, { re := some (.bool false) }, {}, { r := some (.v (.bool e90_) []) }] [] [1, 2, 12] [2] [] ⟨[(1, (.v (.int .i64 b89_), [])), (2, (.ptr 2 0, [])), (12, (.v (.bool (!e90_)), []))], [(2, .cells [.int .i64 c88_.gKind, .str c88_.gName, .int .i64 c88_.gNum, .sl (List.map GTerm.c c88_.gKids)] [])], []⟩ _ (by kernel_rfl) (.cons (congrArg AV.bool h97) (.cons (cspec_l03One h98) .nil)) ?_
        rcases oif h with ⟨h99, h⟩ | ⟨h99, h⟩
        · refine Wc.condT h99 (by kernel_rfl) ?_
          refine Wc.seq ?_
          refine Wc.region [] [] [4] [] [] ⟨[(4, (.v (.bool false), []))], [], []⟩ _ (by kernel_rfl) .nil ?_
          refine Wc.ret ?_
          obtain rfl := Option.some.inj h
          exact ⟨.inl rfl, by kernel_rfl, by kernel_rfl⟩
        · refine Wc.condF h99 (by kernel_rfl) ?_
          refine Wc.fix (st' := ⟨[(1, (.v (.int .i64 b89_), [])), (2, (.ptr 2 0, []))], [(2, .cells [.int .i64 c88_.gKind, .str c88_.gName, .int .i64 c88_.gNum, .sl (List.map GTerm.c c88_.gKids)] [])], []⟩) [] [1, 2] [2] [] (by kernel_rfl) ?_
          refine Wc.skip ?_
          refine Wc.seq ?_
          refine Wc.seq ?_
          refine Wc.region [] [] [1, 2, 5] [2] [] ⟨[(1, (.v (.int .i64 b89_), [])), (2, (.ptr 2 0, [])), (5, (.v (.int .i64 0), []))], [(2, .cells [.int .i64 c88_.gKind, .str c88_.gName, .int .i64 c88_.gNum, .sl (List.map GTerm.c c88_.gKids)] [])], []⟩ _ (by kernel_rfl) .nil ?_
          obtain ⟨out1, h100, h⟩ := obind h
          refine Wc.lastJ (fun st => out1 = .done () ∧ st = ⟨[], [], []⟩) ?_ ?_
          · refine Wc.block ?_
            refine Wc.loop (fun m st => ∃ (b91_ : Int), st = ⟨[(1, (.v (.int .i64 b89_), [])), (2, (.ptr 2 0, [])), (5, (.v (.int .i64 b91_), []))], [(2, .cells [.int .i64 c88_.gKind, .str c88_.gName, .int .i64 c88_.gNum, .sl (List.map GTerm.c c88_.gKids)] [])], []⟩ ∧ pspec_l03Right_L1 k (pspec_l03Right k) c88_ b89_ m b91_ = some out1) ?_ k ⟨_, rfl, h100⟩
            rintro m st ⟨b91_, rfl, h100⟩
            cases m with
            | zero => exact (onone h100).elim
            | succ m =>
              refine Wc.seq ?_
              refine Wc.seq ?_
              refine Wc.region [{}, {}, {}, { v := some (.int .i64 (c88_.gKids.length : Int)) }] [] [1, 2, 5, 17] [2] [] ⟨[(1, (.v (.int .i64 b89_), [])), (2, (.ptr 2 0, [])), (5, (.v (.int .i64 b91_), [])), (17, (.v (.bool (decide (b91_ < (c88_.gKids.length : Int)))), []))], [(2, .cells [.int .i64 c88_.gKind, .str c88_.gName, .int .i64 c88_.gNum, .sl (List.map GTerm.c c88_.gKids)] [])], []⟩ _ (by kernel_rfl) (.cons (len_obl GTerm.c c88_.gKids) .nil) ?_
              rcases oif h100 with ⟨h101, h100⟩ | ⟨h101, h100⟩
              · refine Wc.condT h101 (by kernel_rfl) ?_
                refine Wc.fix (st' := ⟨[(1, (.v (.int .i64 b89_), [])), (2, (.ptr 2 0, [])), (5, (.v (.int .i64 b91_), []))], [(2, .cells [.int .i64 c88_.gKind, .str c88_.gName, .int .i64 c88_.gNum, .sl (List.map GTerm.c c88_.gKids)] [])], []⟩) [] [1, 2, 5] [2] [] (by kernel_rfl) ?_
                refine Wc.skip ?_
                refine Wc.seq ?_
                refine Wc.block ?_
                refine Wc.seq ?_
                obtain ⟨c92_, h102, h100⟩ := obind h100
                obtain ⟨e93_, h103, h100⟩ := obind h100
                refine Wc.region [{}, {}, {}, { v := some (.vptr [.int .i64 c92_.gKind, .str c92_.gName, .int .i64 c92_.gNum, .sl (List.map GTerm.c c92_.gKids)]) }, {}, {}, {}, { r := some (.v (.bool e93_) []) }] [] [1, 2, 5, 28] [2] [] ⟨[(1, (.v (.int .i64 b89_), [])), (2, (.ptr 2 0, [])), (5, (.v (.int .i64 b91_), [])), (28, (.v (.bool (!e93_)), []))], [(2, .cells [.int .i64 c88_.gKind, .str c88_.gName, .int .i64 c88_.gNum, .sl (List.map GTerm.c c88_.gKids)] [])], []⟩ _ (by kernel_rfl) (.cons (at_obl (c := GTerm.c) (GTerm.c_eq c92_) GTerm.c_len h102) (.cons (len_ok 4 [.int .i64 c92_.gKind, .str c92_.gName, .int .i64 c92_.gNum, .sl (List.map GTerm.c c92_.gKids)]) (.cons (ih_pspec_l03Right h103) .nil))) ?_
                rcases oif h100 with ⟨h104, h100⟩ | ⟨h104, h100⟩
                · refine Wc.condT h104 (by kernel_rfl) ?_
                  refine Wc.seq ?_
                  refine Wc.region [] [] [4] [] [] ⟨[(4, (.v (.bool false), []))], [], []⟩ _ (by kernel_rfl) .nil ?_
                  refine Wc.ret ?_
                  obtain rfl := Option.some.inj h100
                  obtain rfl := Option.some.inj h
                  exact ⟨.inl rfl, by kernel_rfl, by kernel_rfl⟩
                · refine Wc.condF h104 (by kernel_rfl) ?_
                  refine Wc.fix (st' := ⟨[(1, (.v (.int .i64 b89_), [])), (2, (.ptr 2 0, [])), (5, (.v (.int .i64 b91_), []))], [(2, .cells [.int .i64 c88_.gKind, .str c88_.gName, .int .i64 c88_.gNum, .sl (List.map GTerm.c c88_.gKids)] [])], []⟩) [] [1, 2, 5] [2] [] (by kernel_rfl) ?_
                  refine Wc.skip ?_
                  refine Wc.region [] [] [1, 2, 5] [2] [] ⟨[(1, (.v (.int .i64 b89_), [])), (2, (.ptr 2 0, [])), (5, (.v (.int .i64 (wr.i64 (b91_ + 1))), []))], [(2, .cells [.int .i64 c88_.gKind, .str c88_.gName, .int .i64 c88_.gNum, .sl (List.map GTerm.c c88_.gKids)] [])], []⟩ _ (by kernel_rfl) .nil ?_
                  exact ⟨_, Nat.lt_succ_self _, _, rfl, h100⟩
              · refine Wc.condF h101 (by kernel_rfl) ?_
                refine Wc.fix (st' := ⟨[], [], []⟩) [] [] [] [] (by kernel_rfl) ?_
                refine Wc.exit ?_
                obtain rfl := Option.some.inj h100
                exact ⟨rfl, rfl⟩
          · rintro st ⟨rfl, rfl⟩
            refine Wc.seq ?_
            refine Wc.region [] [] [4] [] [] ⟨[(4, (.v (.bool true), []))], [], []⟩ _ (by kernel_rfl) .nil ?_
            refine Wc.ret ?_
            obtain rfl := Option.some.inj h
            exact ⟨.inl rfl, by kernel_rfl, by kernel_rfl⟩
theorem cspec_l03Right {k : Nat} {c88_ : GTerm} {b89_ : Int} {r : Bool} (h : pspec_l03Right k c88_ b89_ = some r) : FnO Try.prog 105 [.v (.agg [.int .i64 c88_.gKind, .str c88_.gName, .int .i64 c88_.gNum, .sl (List.map GTerm.c c88_.gKids)]) [], .v (.int .i64 b89_) []] (.v (.bool r) []) [] := (all_pspec_l03Right k) h

/-- spec.TermOk -/
def pspec_TermOk (k : Nat) (c94_ : GTerm) : Option Bool :=
  (pspec_l03Count k c94_ 400).bind fun b95_ =>
  if (decide (b95_ ≥ 0)) = true then
    (pspec_l03Right k c94_ 1).bind fun e96_ =>
    some e96_
  else
    some false
theorem cspec_TermOk {k : Nat} {c94_ : GTerm} {r : Bool} (h : pspec_TermOk k c94_ = some r) : FnO Try.prog 65 [.v (.agg [.int .i64 c94_.gKind, .str c94_.gName, .int .i64 c94_.gNum, .sl (List.map GTerm.c c94_.gKids)]) []] (.v (.bool r) []) [] := by
  refine FnO.of Try.func65 (rfl : Try.f65.body = some _) (Nat.le_of_ble_eq_true (by kernel_rfl)) (Nat.le_of_ble_eq_true (by kernel_rfl)) ?_
  intro w0 X0 Fin pv0 pb
  unfold pspec_TermOk at h
  refine Wc.seq ?_
  refine Wc.region [] [] [1] [1] [] ⟨[(1, (.ptr 1 0, []))], [(1, .cells [.int .i64 c94_.gKind, .str c94_.gName, .int .i64 c94_.gNum, .sl (List.map GTerm.c c94_.gKids)] [])], []⟩ _ (by kernel_rfl) .nil ?_
  refine Wc.seq ?_
  obtain ⟨b95_, h105, h⟩ := obind h
  rcases oif h with ⟨h106, h⟩ | ⟨h106, h⟩
  · obtain ⟨e96_, h107, h⟩ := obind h
    refine Wc.region [{}, { r := some (.v (.int .i64 b95_) []) }, {}, { re := some (.bool true) }, {}, { r := some (.v (.bool e96_) []) }] [] [2] [] [] ⟨[(2, (.v (.bool e96_), []))], [], []⟩ _ (by kernel_rfl) (.cons (cspec_l03Count h105) (.cons (congrArg AV.bool h106) (.cons (cspec_l03Right h107) .nil))) ?_
    refine Wc.ret ?_
    obtain rfl := Option.some.inj h
    exact ⟨.inl rfl, by kernel_rfl, by kernel_rfl⟩
  · refine Wc.region [{}, { r := some (.v (.int .i64 b95_) []) }, {}, { re := some (.bool false) }] [] [2] [] [] ⟨[(2, (.v (.bool false), []))], [], []⟩ _ (by kernel_rfl) (.cons (cspec_l03Count h105) (.cons (congrArg AV.bool h106) .nil)) ?_
    refine Wc.ret ?_
    obtain rfl := Option.some.inj h
    exact ⟨.inl rfl, by kernel_rfl, by kernel_rfl⟩

def pspec_l03Has_L1 (k : Nat) (l97_ : List Int) (b98_ : Int) : Nat → Int → Option (Out Bool Unit)
  | 0, _ => none
  | m + 1, b99_ =>
    if (decide (b99_ < (l97_.length : Int))) = true then
      (at' l97_ b99_).bind fun b100_ =>
      if (b100_ == b98_) = true then
        some (.ret true)
      else
        pspec_l03Has_L1 k l97_ b98_ m (wr.i64 (b99_ + 1))
    else
      some (.done ())
/-- spec.l03Has -/
def pspec_l03Has (k : Nat) (l97_ : List Int) (b98_ : Int) : Option Bool :=
  (pspec_l03Has_L1 k l97_ b98_ k 0).bind fun out1 => match out1 with
  | .ret r => some r
  | .done () =>
    some false
theorem cspec_l03Has {k : Nat} {l97_ : List Int} {b98_ : Int} {r : Bool} (h : pspec_l03Has k l97_ b98_ = some r) : FnO Try.prog 70 [.v (.sl (List.map cI.i64 l97_)) [], .v (.int .i64 b98_) []] (.v (.bool r) []) [] := by
  refine FnO.of Try.func70 (rfl : Try.f70.body = some _) (Nat.le_of_ble_eq_true (by kernel_rfl)) (Nat.le_of_ble_eq_true (by kernel_rfl)) ?_
  intro w0 X0 Fin pv0 pb
  unfold pspec_l03Has at h
  refine Wc.seq ?_
  refine Wc.region [] [] [0, 1] [] [] ⟨[(0, (.v (.sl (List.map cI.i64 l97_)), [])), (1, (.v (.int .i64 b98_), []))], [], []⟩ _ (by kernel_rfl) .nil ?_
  refine Wc.seq ?_
  refine Wc.seq ?_
  refine Wc.region [] [] [0, 1, 5] [] [] ⟨[(0, (.v (.sl (List.map cI.i64 l97_)), [])), (1, (.v (.int .i64 b98_), [])), (5, (.v (.int .i64 0), []))], [], []⟩ _ (by kernel_rfl) .nil ?_
  obtain ⟨out1, h108, h⟩ := obind h
  refine Wc.lastJ (fun st => out1 = .done () ∧ st = ⟨[], [], []⟩) ?_ ?_
  · refine Wc.block ?_
    refine Wc.loop (fun m st => ∃ (b99_ : Int), st = ⟨[(0, (.v (.sl (List.map cI.i64 l97_)), [])), (1, (.v (.int .i64 b98_), [])), (5, (.v (.int .i64 b99_), []))], [], []⟩ ∧ pspec_l03Has_L1 k l97_ b98_ m b99_ = some out1) ?_ k ⟨_, rfl, h108⟩
    rintro m st ⟨b99_, rfl, h108⟩
    cases m with
    | zero => exact (onone h108).elim
    | succ m =>
      refine Wc.seq ?_
      refine Wc.seq ?_
      refine Wc.region [{}, {}, { v := some (.int .i64 (l97_.length : Int)) }] [] [0, 1, 5, 9] [] [] ⟨[(0, (.v (.sl (List.map cI.i64 l97_)), [])), (1, (.v (.int .i64 b98_), [])), (5, (.v (.int .i64 b99_), [])), (9, (.v (.bool (decide (b99_ < (l97_.length : Int)))), []))], [], []⟩ _ (by kernel_rfl) (.cons (len_obl cI.i64 l97_) .nil) ?_
      rcases oif h108 with ⟨h109, h108⟩ | ⟨h109, h108⟩
      · refine Wc.condT h109 (by kernel_rfl) ?_
        refine Wc.fix (st' := ⟨[(0, (.v (.sl (List.map cI.i64 l97_)), [])), (1, (.v (.int .i64 b98_), [])), (5, (.v (.int .i64 b99_), []))], [], []⟩) [] [0, 1, 5] [] [] (by kernel_rfl) ?_
        refine Wc.skip ?_
        refine Wc.seq ?_
        refine Wc.block ?_
        refine Wc.seq ?_
        obtain ⟨b100_, h110, h108⟩ := obind h108
        refine Wc.region [{}, {}, { v := some (.vptr [.int .i64 b100_]) }] [] [0, 1, 5, 17] [] [] ⟨[(0, (.v (.sl (List.map cI.i64 l97_)), [])), (1, (.v (.int .i64 b98_), [])), (5, (.v (.int .i64 b99_), [])), (17, (.v (.bool (b100_ == b98_)), []))], [], []⟩ _ (by kernel_rfl) (.cons (at_obl (c := cI.i64) rfl cI.i64_len h110) (.cons (len_ok 1 [.int .i64 b100_]) .nil)) ?_
        rcases oif h108 with ⟨h111, h108⟩ | ⟨h111, h108⟩
        · refine Wc.condT h111 (by kernel_rfl) ?_
          refine Wc.seq ?_
          refine Wc.region [] [] [4] [] [] ⟨[(4, (.v (.bool true), []))], [], []⟩ _ (by kernel_rfl) .nil ?_
          refine Wc.ret ?_
          obtain rfl := Option.some.inj h108
          obtain rfl := Option.some.inj h
          exact ⟨.inl rfl, by kernel_rfl, by kernel_rfl⟩
        · refine Wc.condF h111 (by kernel_rfl) ?_
          refine Wc.fix (st' := ⟨[(0, (.v (.sl (List.map cI.i64 l97_)), [])), (1, (.v (.int .i64 b98_), [])), (5, (.v (.int .i64 b99_), []))], [], []⟩) [] [0, 1, 5] [] [] (by kernel_rfl) ?_
          refine Wc.skip ?_
          refine Wc.region [] [] [0, 1, 5] [] [] ⟨[(0, (.v (.sl (List.map cI.i64 l97_)), [])), (1, (.v (.int .i64 b98_), [])), (5, (.v (.int .i64 (wr.i64 (b99_ + 1))), []))], [], []⟩ _ (by kernel_rfl) .nil ?_
          exact ⟨_, Nat.lt_succ_self _, _, rfl, h108⟩
      · refine Wc.condF h109 (by kernel_rfl) ?_
        refine Wc.fix (st' := ⟨[], [], []⟩) [] [] [] [] (by kernel_rfl) ?_
        refine Wc.exit ?_
        obtain rfl := Option.some.inj h108
        exact ⟨rfl, rfl⟩
  · rintro st ⟨rfl, rfl⟩
    refine Wc.seq ?_
    refine Wc.region [] [] [4] [] [] ⟨[(4, (.v (.bool false), []))], [], []⟩ _ (by kernel_rfl) .nil ?_
    refine Wc.ret ?_
    obtain rfl := Option.some.inj h
    exact ⟨.inl rfl, by kernel_rfl, by kernel_rfl⟩

def pspec_l12Words_L1 (k : Nat) (rspec_l12Words : GTerm → (List GIns) → (List Int) → Option ((List GIns) × (List Int))) (c112_ : GTerm) : Nat → (List GIns) → (List Int) → Int → Option (Out ((List GIns) × (List Int)) ((List GIns) × (List Int)))
  | 0, _, _, _ => none
  | m + 1, j116_, l117_, b118_ =>
    if (decide (b118_ < (c112_.gKids.length : Int))) = true then
      (at' c112_.gKids b118_).bind fun c121_ =>
      (rspec_l12Words c121_ j116_ l117_).bind fun m122_ =>
      pspec_l12Words_L1 k rspec_l12Words c112_ m m122_.1 m122_.2 (wr.i64 (b118_ + 1))
    else
      some (.done (j116_, l117_))
mutual
/-- spec.l12Words -/
def pspec_l12Words : Nat → GTerm → (List GIns) → (List Int) → Option ((List GIns) × (List Int))
  | 0, _, _, _ => none
  | k + 1, c112_, j113_, l114_ =>
    if (c112_.gKind == 2) = true then
      if j113_.length + [GIns.mk 1 c112_.gName 0 0].length ≤ 1073741824 then
        some (j113_ ++ [GIns.mk 1 c112_.gName 0 0], l114_)
      else none
    else
      if (c112_.gKind == 3) = true then
        if j113_.length + [GIns.mk 2 (bs []) c112_.gNum 0].length ≤ 1073741824 then
          some (j113_ ++ [GIns.mk 2 (bs []) c112_.gNum 0], l114_)
        else none
      else
        if (c112_.gKind == 1) = true then
          (pspec_l03Has k l114_ c112_.gNum).bind fun e115_ =>
          if e115_ = true then
            if j113_.length + [GIns.mk 4 (bs []) c112_.gNum 0].length ≤ 1073741824 then
              some (j113_ ++ [GIns.mk 4 (bs []) c112_.gNum 0], l114_)
            else none
          else
            if j113_.length + [GIns.mk 3 (bs []) c112_.gNum 0].length ≤ 1073741824 then
              if ([] : List Int).length + l114_.length ≤ 1073741824 then
                if l114_.length + [c112_.gNum].length ≤ 1073741824 then
                  some (j113_ ++ [GIns.mk 3 (bs []) c112_.gNum 0], l114_ ++ [c112_.gNum])
                else none
              else none
            else none
        else
          if j113_.length + [GIns.mk 5 c112_.gName 0 (c112_.gKids.length : Int)].length ≤ 1073741824 then
            (pspec_l12Words_L1 k (pspec_l12Words k) c112_ k (j113_ ++ [GIns.mk 5 c112_.gName 0 (c112_.gKids.length : Int)]) l114_ 0).bind fun out1 => match out1 with
            | .ret r => some r
            | .done (j119_, l120_) =>
              some (j119_, l120_)
          else none
end
theorem all_pspec_l12Words : ∀ k : Nat, (∀ {c112_ : GTerm} {j113_ : List GIns} {l114_ : List Int} {r : (List GIns) × (List Int)}, pspec_l12Words k c112_ j113_ l114_ = some r → FnO Try.prog 71 [.v (.agg [.int .i64 c112_.gKind, .str c112_.gName, .int .i64 c112_.gNum, .sl (List.map GTerm.c c112_.gKids)]) [], .v (.slx) [(0, .ex 97 false (List.map GIns.c j113_))], .v (.sl (List.map cI.i64 l114_)) []] (.v (.tup [.slx, .sl (List.map cI.i64 r.2)]) [(0, .ex 97 false (List.map GIns.c r.1))]) []) := by
  intro k
  induction k with
  | zero =>
    · intro c112_ j113_ l114_ r h
      exact (onone (by rw [pspec_l12Words] at h; exact h)).elim
  | succ k ih =>
    have ih_pspec_l12Words := @ih
    · intro c112_ j113_ l114_ r h
      rw [pspec_l12Words] at h
      refine FnO.of Try.func71 (rfl : Try.f71.body = some _) (Nat.le_of_ble_eq_true (by kernel_rfl)) (Nat.le_of_ble_eq_true (by kernel_rfl)) ?_
      intro w0 X0 Fin pv0 pb
      refine Wc.seq ?_
      refine Wc.region [] [] [1, 2, 3] [3] [] ⟨[(1, (.v (.slx), [(0, .ex 97 false (List.map GIns.c j113_))])), (2, (.v (.sl (List.map cI.i64 l114_)), [])), (3, (.ptr 3 0, []))], [(3, .cells [.int .i64 c112_.gKind, .str c112_.gName, .int .i64 c112_.gNum, .sl (List.map GTerm.c c112_.gKids)] [])], []⟩ _ (by kernel_rfl) .nil ?_
      refine Wc.seq ?_
      refine Wc.seq ?_
      refine Wc.region [] [] [1, 2, 3, 10] [3] [] ⟨[(1, (.v (.slx), [(0, .ex 97 false (List.map GIns.c j113_))])), (2, (.v (.sl (List.map cI.i64 l114_)), [])), (3, (.ptr 3 0, [])), (10, (.v (.int .i64 c112_.gKind), []))], [(3, .cells [.int .i64 c112_.gKind, .str c112_.gName, .int .i64 c112_.gNum, .sl (List.map GTerm.c c112_.gKids)] [])], []⟩ _ (by kernel_rfl) .nil ?_
      refine Wc.block ?_
      refine Wc.seq ?_
      refine Wc.region [] [] [1, 2, 3, 10, 11] [3] [] ⟨[(1, (.v (.slx), [(0, .ex 97 false (List.map GIns.c j113_))])), (2, (.v (.sl (List.map cI.i64 l114_)), [])), (3, (.ptr 3 0, [])), (10, (.v (.int .i64 c112_.gKind), [])), (11, (.v (.bool (c112_.gKind == 2)), []))], [(3, .cells [.int .i64 c112_.gKind, .str c112_.gName, .int .i64 c112_.gNum, .sl (List.map GTerm.c c112_.gKids)] [])], []⟩ _ (by kernel_rfl) .nil ?_
      rcases oif h with ⟨h128, h⟩ | ⟨h128, h⟩
      · refine Wc.condT h128 (by kernel_rfl) ?_
        refine Wc.seq ?_
        obtain ⟨h129, h⟩ := oguard h
        refine Wc.region [{ tk := [1] }, {}, {}, {}, { c := some (List.map GIns.c [GIns.mk 1 c112_.gName 0 0]) }, { c := some (List.map GIns.c (j113_ ++ [GIns.mk 1 c112_.gName 0 0])), tk := [13], md := 1 }, {}, { tk := [18] }] [] [6, 7] [] [] ⟨[(6, (.v (.slx), [(0, .ex 97 false (List.map GIns.c (j113_ ++ [GIns.mk 1 c112_.gName 0 0])))])), (7, (.v (.sl (List.map cI.i64 l114_)), []))], [], []⟩ _ (by kernel_rfl) (.cons (cl_cons (c := GIns.c) (x := GIns.mk 1 c112_.gName 0 0) (GIns.c_eq (GIns.mk 1 c112_.gName 0 0)) (cl_nil GIns.c)) (.cons (app_re2 GIns.c j113_ [GIns.mk 1 c112_.gName 0 0]) (.cons (app_leaf (c := GIns.c) (ys := [GIns.mk 1 c112_.gName 0 0]) GIns.c_leaf) (.cons (app_obl2 (c := GIns.c) (xs := j113_) (ys := [GIns.mk 1 c112_.gName 0 0]) GIns.c_len h129) .nil)))) ?_
        refine Wc.ret ?_
        obtain rfl := Option.some.inj h
        exact ⟨.inl rfl, by kernel_rfl, by kernel_rfl⟩
      · refine Wc.condF h128 (by kernel_rfl) ?_
        refine Wc.seq ?_
        refine Wc.region [] [] [1, 2, 3, 10, 20] [3] [] ⟨[(1, (.v (.slx), [(0, .ex 97 false (List.map GIns.c j113_))])), (2, (.v (.sl (List.map cI.i64 l114_)), [])), (3, (.ptr 3 0, [])), (10, (.v (.int .i64 c112_.gKind), [])), (20, (.v (.bool (c112_.gKind == 3)), []))], [(3, .cells [.int .i64 c112_.gKind, .str c112_.gName, .int .i64 c112_.gNum, .sl (List.map GTerm.c c112_.gKids)] [])], []⟩ _ (by kernel_rfl) .nil ?_
        rcases oif h with ⟨h130, h⟩ | ⟨h130, h⟩
        · refine Wc.condT h130 (by kernel_rfl) ?_
          refine Wc.seq ?_
          obtain ⟨h131, h⟩ := oguard h
          refine Wc.region [{ tk := [1] }, {}, {}, {}, { c := some (List.map GIns.c [GIns.mk 2 (bs []) c112_.gNum 0]) }, { c := some (List.map GIns.c (j113_ ++ [GIns.mk 2 (bs []) c112_.gNum 0])), tk := [22], md := 1 }, {}, { tk := [27] }] [] [6, 7] [] [] ⟨[(6, (.v (.slx), [(0, .ex 97 false (List.map GIns.c (j113_ ++ [GIns.mk 2 (bs []) c112_.gNum 0])))])), (7, (.v (.sl (List.map cI.i64 l114_)), []))], [], []⟩ _ (by kernel_rfl) (.cons (cl_cons (c := GIns.c) (x := GIns.mk 2 (bs []) c112_.gNum 0) (GIns.c_eq (GIns.mk 2 (bs []) c112_.gNum 0)) (cl_nil GIns.c)) (.cons (app_re2 GIns.c j113_ [GIns.mk 2 (bs []) c112_.gNum 0]) (.cons (app_leaf (c := GIns.c) (ys := [GIns.mk 2 (bs []) c112_.gNum 0]) GIns.c_leaf) (.cons (app_obl2 (c := GIns.c) (xs := j113_) (ys := [GIns.mk 2 (bs []) c112_.gNum 0]) GIns.c_len h131) .nil)))) ?_
          refine Wc.ret ?_
          obtain rfl := Option.some.inj h
          exact ⟨.inl rfl, by kernel_rfl, by kernel_rfl⟩
        · refine Wc.condF h130 (by kernel_rfl) ?_
          refine Wc.seq ?_
          refine Wc.region [] [] [1, 2, 3, 29] [3] [] ⟨[(1, (.v (.slx), [(0, .ex 97 false (List.map GIns.c j113_))])), (2, (.v (.sl (List.map cI.i64 l114_)), [])), (3, (.ptr 3 0, [])), (29, (.v (.bool (c112_.gKind == 1)), []))], [(3, .cells [.int .i64 c112_.gKind, .str c112_.gName, .int .i64 c112_.gNum, .sl (List.map GTerm.c c112_.gKids)] [])], []⟩ _ (by kernel_rfl) .nil ?_
          rcases oif h with ⟨h132, h⟩ | ⟨h132, h⟩
          · refine Wc.condT h132 (by kernel_rfl) ?_
            refine Wc.seq ?_
            refine Wc.seq ?_
            obtain ⟨e115_, h133, h⟩ := obind h
            refine Wc.region [{}, {}, {}, { r := some (.v (.bool e115_) []) }] [] [1, 2, 3, 34] [3] [] ⟨[(1, (.v (.slx), [(0, .ex 97 false (List.map GIns.c j113_))])), (2, (.v (.sl (List.map cI.i64 l114_)), [])), (3, (.ptr 3 0, [])), (34, (.v (.bool e115_), []))], [(3, .cells [.int .i64 c112_.gKind, .str c112_.gName, .int .i64 c112_.gNum, .sl (List.map GTerm.c c112_.gKids)] [])], []⟩ _ (by kernel_rfl) (.cons (cspec_l03Has h133) .nil) ?_
            rcases oif h with ⟨h134, h⟩ | ⟨h134, h⟩
            · refine Wc.condT h134 (by kernel_rfl) ?_
              refine Wc.seq ?_
              obtain ⟨h135, h⟩ := oguard h
              refine Wc.region [{ tk := [1] }, {}, {}, {}, { c := some (List.map GIns.c [GIns.mk 4 (bs []) c112_.gNum 0]) }, { c := some (List.map GIns.c (j113_ ++ [GIns.mk 4 (bs []) c112_.gNum 0])), tk := [35], md := 1 }, {}, { tk := [40] }] [] [6, 7] [] [] ⟨[(6, (.v (.slx), [(0, .ex 97 false (List.map GIns.c (j113_ ++ [GIns.mk 4 (bs []) c112_.gNum 0])))])), (7, (.v (.sl (List.map cI.i64 l114_)), []))], [], []⟩ _ (by kernel_rfl) (.cons (cl_cons (c := GIns.c) (x := GIns.mk 4 (bs []) c112_.gNum 0) (GIns.c_eq (GIns.mk 4 (bs []) c112_.gNum 0)) (cl_nil GIns.c)) (.cons (app_re2 GIns.c j113_ [GIns.mk 4 (bs []) c112_.gNum 0]) (.cons (app_leaf (c := GIns.c) (ys := [GIns.mk 4 (bs []) c112_.gNum 0]) GIns.c_leaf) (.cons (app_obl2 (c := GIns.c) (xs := j113_) (ys := [GIns.mk 4 (bs []) c112_.gNum 0]) GIns.c_len h135) .nil)))) ?_
              refine Wc.ret ?_
              obtain rfl := Option.some.inj h
              exact ⟨.inl rfl, by kernel_rfl, by kernel_rfl⟩
            · refine Wc.condF h134 (by kernel_rfl) ?_
              refine Wc.fix (st' := ⟨[(1, (.v (.slx), [(0, .ex 97 false (List.map GIns.c j113_))])), (2, (.v (.sl (List.map cI.i64 l114_)), [])), (3, (.ptr 3 0, []))], [(3, .cells [.int .i64 c112_.gKind, .str c112_.gName, .int .i64 c112_.gNum, .sl (List.map GTerm.c c112_.gKids)] [])], []⟩) [] [1, 2, 3] [3] [] (by kernel_rfl) ?_
              refine Wc.skip ?_
              refine Wc.seq ?_
              obtain ⟨h136, h⟩ := oguard h
              obtain ⟨h137, h⟩ := oguard h
              obtain ⟨h138, h⟩ := oguard h
              refine Wc.draw hmix [{ tk := [1] }, {}, {}, {}, { c := some (List.map GIns.c [GIns.mk 3 (bs []) c112_.gNum 0]) }, { c := some (List.map GIns.c (j113_ ++ [GIns.mk 3 (bs []) c112_.gNum 0])), tk := [42], md := 1 }, { c := some (List.map cI.i64 []) }, {}, { c := some (List.map cI.i64 l114_), tk := [48] }, {}, {}, { c := some (List.map cI.i64 [c112_.gNum]) }, { c := some (List.map cI.i64 (l114_ ++ [c112_.gNum])), tk := [50] }, { tk := [47] }, { tk := [54] }] [] [6, 7] [] [] ⟨[(6, (.v (.slx), [(0, .ex 97 false (List.map GIns.c (j113_ ++ [GIns.mk 3 (bs []) c112_.gNum 0])))])), (7, (.v (.sl (List.map cI.i64 (l114_ ++ [c112_.gNum]))), [(0, .app 3)]))], [], []⟩ _ (by kernel_rfl) (fun X => by kernel_rfl) (.cons (cl_cons (c := GIns.c) (x := GIns.mk 3 (bs []) c112_.gNum 0) (GIns.c_eq (GIns.mk 3 (bs []) c112_.gNum 0)) (cl_nil GIns.c)) (.cons (app_re2 GIns.c j113_ [GIns.mk 3 (bs []) c112_.gNum 0]) (.cons (app_leaf (c := GIns.c) (ys := [GIns.mk 3 (bs []) c112_.gNum 0]) GIns.c_leaf) (.cons (app_obl2 (c := GIns.c) (xs := j113_) (ys := [GIns.mk 3 (bs []) c112_.gNum 0]) GIns.c_len h136) (.cons (cl_nil cI.i64) (.cons (app_re0 cI.i64 l114_) (.cons (app_leaf (c := cI.i64) (ys := l114_) cI.i64_leaf) (.cons (app_obl2 (c := cI.i64) (xs := []) (ys := l114_) cI.i64_len h137) (.cons (cl_cons (c := cI.i64) (x := c112_.gNum) rfl (cl_nil cI.i64)) (.cons (app_re2 cI.i64 l114_ [c112_.gNum]) (.cons (app_leaf (c := cI.i64) (ys := [c112_.gNum]) cI.i64_leaf) (.cons (app_obl2 (c := cI.i64) (xs := l114_) (ys := [c112_.gNum]) cI.i64_len h138) .nil)))))))))))) ?_
              refine Wc.fix (st' := ⟨[(6, (.v (.slx), [(0, .ex 97 false (List.map GIns.c (j113_ ++ [GIns.mk 3 (bs []) c112_.gNum 0])))])), (7, (.v (.sl (List.map cI.i64 (l114_ ++ [c112_.gNum]))), []))], [], []⟩) [.un (.t 7 0)] [6, 7] [] [] (by kernel_rfl) ?_
              refine Wc.ret ?_
              obtain rfl := Option.some.inj h
              exact ⟨.inl rfl, by kernel_rfl, by kernel_rfl⟩
          · refine Wc.condF h132 (by kernel_rfl) ?_
            refine Wc.fix (st' := ⟨[(1, (.v (.slx), [(0, .ex 97 false (List.map GIns.c j113_))])), (2, (.v (.sl (List.map cI.i64 l114_)), [])), (3, (.ptr 3 0, []))], [(3, .cells [.int .i64 c112_.gKind, .str c112_.gName, .int .i64 c112_.gNum, .sl (List.map GTerm.c c112_.gKids)] [])], []⟩) [] [1, 2, 3] [3] [] (by kernel_rfl) ?_
            refine Wc.skip ?_
            refine Wc.seq ?_
            obtain ⟨h139, h⟩ := oguard h
            refine Wc.region [{ tk := [1] }, {}, {}, {}, {}, { v := some (.int .i64 (c112_.gKids.length : Int)) }, {}, { c := some (List.map GIns.c [GIns.mk 5 c112_.gName 0 (c112_.gKids.length : Int)]) }, { c := some (List.map GIns.c (j113_ ++ [GIns.mk 5 c112_.gName 0 (c112_.gKids.length : Int)])), tk := [55], md := 1 }, { tk := [63] }] [] [1, 2, 3] [3] [] ⟨[(1, (.v (.slx), [(0, .ex 97 false (List.map GIns.c (j113_ ++ [GIns.mk 5 c112_.gName 0 (c112_.gKids.length : Int)])))])), (2, (.v (.sl (List.map cI.i64 l114_)), [])), (3, (.ptr 3 0, []))], [(3, .cells [.int .i64 c112_.gKind, .str c112_.gName, .int .i64 c112_.gNum, .sl (List.map GTerm.c c112_.gKids)] [])], []⟩ _ (by kernel_rfl) (.cons (len_obl GTerm.c c112_.gKids) (.cons (cl_cons (c := GIns.c) (x := GIns.mk 5 c112_.gName 0 (c112_.gKids.length : Int)) (GIns.c_eq (GIns.mk 5 c112_.gName 0 (c112_.gKids.length : Int))) (cl_nil GIns.c)) (.cons (app_re2 GIns.c j113_ [GIns.mk 5 c112_.gName 0 (c112_.gKids.length : Int)]) (.cons (app_leaf (c := GIns.c) (ys := [GIns.mk 5 c112_.gName 0 (c112_.gKids.length : Int)]) GIns.c_leaf) (.cons (app_obl2 (c := GIns.c) (xs := j113_) (ys := [GIns.mk 5 c112_.gName 0 (c112_.gKids.length : Int)]) GIns.c_len h139) .nil))))) ?_
            refine Wc.seq ?_
            refine Wc.seq ?_
            refine Wc.region [] [] [1, 2, 3, 8] [3] [] ⟨[(1, (.v (.slx), [(0, .ex 97 false (List.map GIns.c (j113_ ++ [GIns.mk 5 c112_.gName 0 (c112_.gKids.length : Int)])))])), (2, (.v (.sl (List.map cI.i64 l114_)), [])), (3, (.ptr 3 0, [])), (8, (.v (.int .i64 0), []))], [(3, .cells [.int .i64 c112_.gKind, .str c112_.gName, .int .i64 c112_.gNum, .sl (List.map GTerm.c c112_.gKids)] [])], []⟩ _ (by kernel_rfl) .nil ?_
            obtain ⟨out1, h140, h⟩ := obind h
            refine Wc.lastJ (fun st => ∃ (j119_ : List GIns) (l120_ : List Int), out1 = .done (j119_, l120_) ∧ st = ⟨[(1, (.v (.slx), [(0, .ex 97 false (List.map GIns.c j119_))])), (2, (.v (.sl (List.map cI.i64 l120_)), []))], [], []⟩) ?_ ?_
            · refine Wc.block ?_
              refine Wc.loop (fun m st => ∃ (j116_ : List GIns) (l117_ : List Int) (b118_ : Int), st = ⟨[(1, (.v (.slx), [(0, .ex 97 false (List.map GIns.c j116_))])), (2, (.v (.sl (List.map cI.i64 l117_)), [])), (3, (.ptr 3 0, [])), (8, (.v (.int .i64 b118_), []))], [(3, .cells [.int .i64 c112_.gKind, .str c112_.gName, .int .i64 c112_.gNum, .sl (List.map GTerm.c c112_.gKids)] [])], []⟩ ∧ pspec_l12Words_L1 k (pspec_l12Words k) c112_ m j116_ l117_ b118_ = some out1) ?_ k ⟨_, _, _, rfl, h140⟩
              rintro m st ⟨j116_, l117_, b118_, rfl, h140⟩
              cases m with
              | zero => exact (onone h140).elim
              | succ m =>
                refine Wc.seq ?_
                refine Wc.seq ?_
                refine Wc.region [{}, {}, {}, { v := some (.int .i64 (c112_.gKids.length : Int)) }] [] [1, 2, 3, 8, 68] [3] [] ⟨[(1, (.v (.slx), [(0, .ex 97 false (List.map GIns.c j116_))])), (2, (.v (.sl (List.map cI.i64 l117_)), [])), (3, (.ptr 3 0, [])), (8, (.v (.int .i64 b118_), [])), (68, (.v (.bool (decide (b118_ < (c112_.gKids.length : Int)))), []))], [(3, .cells [.int .i64 c112_.gKind, .str c112_.gName, .int .i64 c112_.gNum, .sl (List.map GTerm.c c112_.gKids)] [])], []⟩ _ (by kernel_rfl) (.cons (len_obl GTerm.c c112_.gKids) .nil) ?_
                rcases oif h140 with ⟨h141, h140⟩ | ⟨h141, h140⟩
                · refine Wc.condT h141 (by kernel_rfl) ?_
                  refine Wc.fix (st' := ⟨[(1, (.v (.slx), [(0, .ex 97 false (List.map GIns.c j116_))])), (2, (.v (.sl (List.map cI.i64 l117_)), [])), (3, (.ptr 3 0, [])), (8, (.v (.int .i64 b118_), []))], [(3, .cells [.int .i64 c112_.gKind, .str c112_.gName, .int .i64 c112_.gNum, .sl (List.map GTerm.c c112_.gKids)] [])], []⟩) [] [1, 2, 3, 8] [3] [] (by kernel_rfl) ?_
                  refine Wc.skip ?_
                  refine Wc.seq ?_
                  refine Wc.block ?_
                  obtain ⟨c121_, h142, h140⟩ := obind h140
                  obtain ⟨m122_, h143, h140⟩ := obind h140
                  refine Wc.region [{}, {}, {}, { v := some (.vptr [.int .i64 c121_.gKind, .str c121_.gName, .int .i64 c121_.gNum, .sl (List.map GTerm.c c121_.gKids)]) }, {}, { tk := [1] }, {}, { tk := [77], r := some (.v (.tup [.slx, .sl (List.map cI.i64 m122_.2)]) [(0, .ex 97 false (List.map GIns.c m122_.1))]) }, { tk := [79] }, { tk := [71] }, {}, { tk := [80] }] [] [1, 2, 3, 8] [3] [] ⟨[(1, (.v (.slx), [(0, .ex 97 false (List.map GIns.c m122_.1))])), (2, (.v (.sl (List.map cI.i64 m122_.2)), [])), (3, (.ptr 3 0, [])), (8, (.v (.int .i64 b118_), []))], [(3, .cells [.int .i64 c112_.gKind, .str c112_.gName, .int .i64 c112_.gNum, .sl (List.map GTerm.c c112_.gKids)] [])], []⟩ _ (by kernel_rfl) (.cons (at_obl (c := GTerm.c) (GTerm.c_eq c121_) GTerm.c_len h142) (.cons (len_ok 4 [.int .i64 c121_.gKind, .str c121_.gName, .int .i64 c121_.gNum, .sl (List.map GTerm.c c121_.gKids)]) (.cons (ih_pspec_l12Words h143) .nil))) ?_
                  refine Wc.region [] [] [1, 2, 3, 8] [3] [] ⟨[(1, (.v (.slx), [(0, .ex 97 false (List.map GIns.c m122_.1))])), (2, (.v (.sl (List.map cI.i64 m122_.2)), [])), (3, (.ptr 3 0, [])), (8, (.v (.int .i64 (wr.i64 (b118_ + 1))), []))], [(3, .cells [.int .i64 c112_.gKind, .str c112_.gName, .int .i64 c112_.gNum, .sl (List.map GTerm.c c112_.gKids)] [])], []⟩ _ (by kernel_rfl) .nil ?_
                  exact ⟨_, Nat.lt_succ_self _, _, _, _, rfl, h140⟩
                · refine Wc.condF h141 (by kernel_rfl) ?_
                  refine Wc.fix (st' := ⟨[(1, (.v (.slx), [(0, .ex 97 false (List.map GIns.c j116_))])), (2, (.v (.sl (List.map cI.i64 l117_)), []))], [], []⟩) [] [1, 2] [] [] (by kernel_rfl) ?_
                  refine Wc.exit ?_
                  obtain rfl := Option.some.inj h140
                  exact ⟨_, _, rfl, rfl⟩
            · rintro st ⟨j119_, l120_, rfl, rfl⟩
              refine Wc.seq ?_
              refine Wc.region [{ tk := [1] }, {}, { tk := [82] }] [] [6, 7] [] [] ⟨[(6, (.v (.slx), [(0, .ex 97 false (List.map GIns.c j119_))])), (7, (.v (.sl (List.map cI.i64 l120_)), []))], [], []⟩ _ (by kernel_rfl) .nil ?_
              refine Wc.ret ?_
              obtain rfl := Option.some.inj h
              exact ⟨.inl rfl, by kernel_rfl, by kernel_rfl⟩
theorem cspec_l12Words {k : Nat} {c112_ : GTerm} {j113_ : List GIns} {l114_ : List Int} {r : (List GIns) × (List Int)} (h : pspec_l12Words k c112_ j113_ l114_ = some r) : FnO Try.prog 71 [.v (.agg [.int .i64 c112_.gKind, .str c112_.gName, .int .i64 c112_.gNum, .sl (List.map GTerm.c c112_.gKids)]) [], .v (.slx) [(0, .ex 97 false (List.map GIns.c j113_))], .v (.sl (List.map cI.i64 l114_)) []] (.v (.tup [.slx, .sl (List.map cI.i64 r.2)]) [(0, .ex 97 false (List.map GIns.c r.1))]) [] := (all_pspec_l12Words k) h

def pspec_WordsOf_L1 (k : Nat) (l134_ : List Int) : Nat → (List Int) → Int → Option (Out ((List GIns) × (List Int)) (List Int))
  | 0, _, _ => none
  | m + 1, l135_, b136_ =>
    if (decide (b136_ < (l134_.length : Int))) = true then
      (at' l134_ b136_).bind fun b138_ =>
      (pspec_l03Has k l135_ b138_).bind fun e139_ =>
      if (!e139_) = true then
        (at' l134_ b136_).bind fun b140_ =>
        if l135_.length + [b140_].length ≤ 1073741824 then
          pspec_WordsOf_L1 k l134_ m (l135_ ++ [b140_]) (wr.i64 (b136_ + 1))
        else none
      else
        pspec_WordsOf_L1 k l134_ m l135_ (wr.i64 (b136_ + 1))
    else
      some (.done l135_)
/-- spec.WordsOf -/
def pspec_WordsOf (k : Nat) (c133_ : GTerm) (l134_ : List Int) : Option ((List GIns) × (List Int)) :=
  (pspec_WordsOf_L1 k l134_ k [] 0).bind fun out1 => match out1 with
  | .ret r => some r
  | .done l137_ =>
    (pspec_TermOk k c133_).bind fun e141_ =>
    if (!e141_) = true then
      some ([], l137_)
    else
      (pspec_l12Words k c133_ [] l137_).bind fun m142_ =>
      some (m142_.1, m142_.2)
theorem cspec_WordsOf {k : Nat} {c133_ : GTerm} {l134_ : List Int} {r : (List GIns) × (List Int)} (h : pspec_WordsOf k c133_ l134_ = some r) : FnO Try.prog 29 [.v (.agg [.int .i64 c133_.gKind, .str c133_.gName, .int .i64 c133_.gNum, .sl (List.map GTerm.c c133_.gKids)]) [], .v (.sl (List.map cI.i64 l134_)) []] (.v (.tup [.sl (List.map GIns.c r.1), .sl (List.map cI.i64 r.2)]) []) [] := by
  refine FnO.of Try.func29 (rfl : Try.f29.body = some _) (Nat.le_of_ble_eq_true (by kernel_rfl)) (Nat.le_of_ble_eq_true (by kernel_rfl)) ?_
  intro w0 X0 Fin pv0 pb
  unfold pspec_WordsOf at h
  refine Wc.seq ?_
  refine Wc.region [] [] [1, 2] [2] [] ⟨[(1, (.v (.sl (List.map cI.i64 l134_)), [])), (2, (.ptr 2 0, []))], [(2, .cells [.int .i64 c133_.gKind, .str c133_.gName, .int .i64 c133_.gNum, .sl (List.map GTerm.c c133_.gKids)] [])], []⟩ _ (by kernel_rfl) .nil ?_
  refine Wc.seq ?_
  refine Wc.region [{ c := some (List.map cI.i64 []) }, { tk := [8] }] [] [1, 2, 6] [2] [] ⟨[(1, (.v (.sl (List.map cI.i64 l134_)), [])), (2, (.ptr 2 0, [])), (6, (.v (.sl (List.map cI.i64 [])), [(0, .app 3)]))], [(2, .cells [.int .i64 c133_.gKind, .str c133_.gName, .int .i64 c133_.gNum, .sl (List.map GTerm.c c133_.gKids)] [])], []⟩ _ (by kernel_rfl) (.cons (cl_nil cI.i64) .nil) ?_
  refine Wc.seq ?_
  refine Wc.seq ?_
  refine Wc.region [] [] [1, 2, 6, 7] [2] [] ⟨[(1, (.v (.sl (List.map cI.i64 l134_)), [])), (2, (.ptr 2 0, [])), (6, (.v (.sl (List.map cI.i64 [])), [(0, .app 3)])), (7, (.v (.int .i64 0), []))], [(2, .cells [.int .i64 c133_.gKind, .str c133_.gName, .int .i64 c133_.gNum, .sl (List.map GTerm.c c133_.gKids)] [])], []⟩ _ (by kernel_rfl) .nil ?_
  obtain ⟨out1, h154, h⟩ := obind h
  refine Wc.lastJ (fun st => ∃ (l137_ : List Int), out1 = .done l137_ ∧ st = ⟨[(2, (.ptr 2 0, [])), (6, (.v (.sl (List.map cI.i64 l137_)), [(0, .app 3)]))], [(2, .cells [.int .i64 c133_.gKind, .str c133_.gName, .int .i64 c133_.gNum, .sl (List.map GTerm.c c133_.gKids)] [])], []⟩) ?_ ?_
  · refine Wc.block ?_
    refine Wc.loop (fun m st => ∃ (l135_ : List Int) (b136_ : Int), st = ⟨[(1, (.v (.sl (List.map cI.i64 l134_)), [])), (2, (.ptr 2 0, [])), (6, (.v (.sl (List.map cI.i64 l135_)), [(0, .app 3)])), (7, (.v (.int .i64 b136_), []))], [(2, .cells [.int .i64 c133_.gKind, .str c133_.gName, .int .i64 c133_.gNum, .sl (List.map GTerm.c c133_.gKids)] [])], []⟩ ∧ pspec_WordsOf_L1 k l134_ m l135_ b136_ = some out1) ?_ k ⟨_, _, rfl, h154⟩
    rintro m st ⟨l135_, b136_, rfl, h154⟩
    cases m with
    | zero => exact (onone h154).elim
    | succ m =>
      refine Wc.seq ?_
      refine Wc.seq ?_
      refine Wc.region [{}, {}, { v := some (.int .i64 (l134_.length : Int)) }] [] [1, 2, 6, 7, 12] [2] [] ⟨[(1, (.v (.sl (List.map cI.i64 l134_)), [])), (2, (.ptr 2 0, [])), (6, (.v (.sl (List.map cI.i64 l135_)), [(0, .app 3)])), (7, (.v (.int .i64 b136_), [])), (12, (.v (.bool (decide (b136_ < (l134_.length : Int)))), []))], [(2, .cells [.int .i64 c133_.gKind, .str c133_.gName, .int .i64 c133_.gNum, .sl (List.map GTerm.c c133_.gKids)] [])], []⟩ _ (by kernel_rfl) (.cons (len_obl cI.i64 l134_) .nil) ?_
      rcases oif h154 with ⟨h155, h154⟩ | ⟨h155, h154⟩
      · refine Wc.condT h155 (by kernel_rfl) ?_
        refine Wc.fix (st' := ⟨[(1, (.v (.sl (List.map cI.i64 l134_)), [])), (2, (.ptr 2 0, [])), (6, (.v (.sl (List.map cI.i64 l135_)), [(0, .app 3)])), (7, (.v (.int .i64 b136_), []))], [(2, .cells [.int .i64 c133_.gKind, .str c133_.gName, .int .i64 c133_.gNum, .sl (List.map GTerm.c c133_.gKids)] [])], []⟩) [] [1, 2, 6, 7] [2] [] (by kernel_rfl) ?_
        refine Wc.skip ?_
        refine Wc.seq ?_
        refine Wc.block ?_
        refine Wc.seq ?_
        obtain ⟨b138_, h156, h154⟩ := obind h154
        obtain ⟨e139_, h157, h154⟩ := obind h154
        refine Wc.region [{}, {}, {}, { v := some (.vptr [.int .i64 b138_]) }, {}, { r := some (.v (.bool e139_) []) }] [] [1, 2, 6, 7, 21] [2] [] ⟨[(1, (.v (.sl (List.map cI.i64 l134_)), [])), (2, (.ptr 2 0, [])), (6, (.v (.sl (List.map cI.i64 l135_)), [(0, .app 3)])), (7, (.v (.int .i64 b136_), [])), (21, (.v (.bool (!e139_)), []))], [(2, .cells [.int .i64 c133_.gKind, .str c133_.gName, .int .i64 c133_.gNum, .sl (List.map GTerm.c c133_.gKids)] [])], []⟩ _ (by kernel_rfl) (.cons (at_obl (c := cI.i64) rfl cI.i64_len h156) (.cons (len_ok 1 [.int .i64 b138_]) (.cons (cspec_l03Has h157) .nil))) ?_
        rcases oif h154 with ⟨h158, h154⟩ | ⟨h158, h154⟩
        · refine Wc.condT h158 (by kernel_rfl) ?_
          obtain ⟨b140_, h159, h154⟩ := obind h154
          obtain ⟨h160, h154⟩ := oguard h154
          refine Wc.region [{ tk := [6] }, {}, {}, { v := some (.vptr [.int .i64 b140_]) }, {}, { c := some (List.map cI.i64 [b140_]) }, { c := some (List.map cI.i64 (l135_ ++ [b140_])), tk := [22] }, { tk := [28] }] [] [1, 2, 6, 7] [2] [] ⟨[(1, (.v (.sl (List.map cI.i64 l134_)), [])), (2, (.ptr 2 0, [])), (6, (.v (.sl (List.map cI.i64 (l135_ ++ [b140_]))), [(0, .app 3)])), (7, (.v (.int .i64 b136_), []))], [(2, .cells [.int .i64 c133_.gKind, .str c133_.gName, .int .i64 c133_.gNum, .sl (List.map GTerm.c c133_.gKids)] [])], []⟩ _ (by kernel_rfl) (.cons (at_obl (c := cI.i64) rfl cI.i64_len h159) (.cons (len_ok 1 [.int .i64 b140_]) (.cons (cl_cons (c := cI.i64) (x := b140_) rfl (cl_nil cI.i64)) (.cons (app_re2 cI.i64 l135_ [b140_]) (.cons (app_leaf (c := cI.i64) (ys := [b140_]) cI.i64_leaf) (.cons (app_obl2 (c := cI.i64) (xs := l135_) (ys := [b140_]) cI.i64_len h160) .nil)))))) ?_
          refine Wc.region [] [] [1, 2, 6, 7] [2] [] ⟨[(1, (.v (.sl (List.map cI.i64 l134_)), [])), (2, (.ptr 2 0, [])), (6, (.v (.sl (List.map cI.i64 (l135_ ++ [b140_]))), [(0, .app 3)])), (7, (.v (.int .i64 (wr.i64 (b136_ + 1))), []))], [(2, .cells [.int .i64 c133_.gKind, .str c133_.gName, .int .i64 c133_.gNum, .sl (List.map GTerm.c c133_.gKids)] [])], []⟩ _ (by kernel_rfl) .nil ?_
          exact ⟨_, Nat.lt_succ_self _, _, _, rfl, h154⟩
        · refine Wc.condF h158 (by kernel_rfl) ?_
          refine Wc.fix (st' := ⟨[(1, (.v (.sl (List.map cI.i64 l134_)), [])), (2, (.ptr 2 0, [])), (6, (.v (.sl (List.map cI.i64 l135_)), [(0, .app 3)])), (7, (.v (.int .i64 b136_), []))], [(2, .cells [.int .i64 c133_.gKind, .str c133_.gName, .int .i64 c133_.gNum, .sl (List.map GTerm.c c133_.gKids)] [])], []⟩) [] [1, 2, 6, 7] [2] [] (by kernel_rfl) ?_
          refine Wc.skip ?_
          refine Wc.region [] [] [1, 2, 6, 7] [2] [] ⟨[(1, (.v (.sl (List.map cI.i64 l134_)), [])), (2, (.ptr 2 0, [])), (6, (.v (.sl (List.map cI.i64 l135_)), [(0, .app 3)])), (7, (.v (.int .i64 (wr.i64 (b136_ + 1))), []))], [(2, .cells [.int .i64 c133_.gKind, .str c133_.gName, .int .i64 c133_.gNum, .sl (List.map GTerm.c c133_.gKids)] [])], []⟩ _ (by kernel_rfl) .nil ?_
          exact ⟨_, Nat.lt_succ_self _, _, _, rfl, h154⟩
      · refine Wc.condF h155 (by kernel_rfl) ?_
        refine Wc.fix (st' := ⟨[(2, (.ptr 2 0, [])), (6, (.v (.sl (List.map cI.i64 l135_)), [(0, .app 3)]))], [(2, .cells [.int .i64 c133_.gKind, .str c133_.gName, .int .i64 c133_.gNum, .sl (List.map GTerm.c c133_.gKids)] [])], []⟩) [] [2, 6] [2] [] (by kernel_rfl) ?_
        refine Wc.exit ?_
        obtain rfl := Option.some.inj h154
        exact ⟨_, rfl, rfl⟩
  · rintro st ⟨l137_, rfl, rfl⟩
    refine Wc.seq ?_
    refine Wc.seq ?_
    obtain ⟨e141_, h161, h⟩ := obind h
    refine Wc.region [{}, { r := some (.v (.bool e141_) []) }] [] [2, 6, 31] [2] [] ⟨[(2, (.ptr 2 0, [])), (6, (.v (.sl (List.map cI.i64 l137_)), [(0, .app 3)])), (31, (.v (.bool (!e141_)), []))], [(2, .cells [.int .i64 c133_.gKind, .str c133_.gName, .int .i64 c133_.gNum, .sl (List.map GTerm.c c133_.gKids)] [])], []⟩ _ (by kernel_rfl) (.cons (cspec_TermOk h161) .nil) ?_
    rcases oif h with ⟨h162, h⟩ | ⟨h162, h⟩
    · refine Wc.condT h162 (by kernel_rfl) ?_
      refine Wc.seq ?_
      refine Wc.region [{ c := some (List.map GIns.c []) }, { tk := [6] }, { tk := [32] }, { tk := [33] }] [] [4, 5] [] [] ⟨[(4, (.v (.sl (List.map GIns.c [])), [(0, .app 97)])), (5, (.v (.sl (List.map cI.i64 l137_)), [(0, .app 3)]))], [], []⟩ _ (by kernel_rfl) (.cons (cl_nil GIns.c) .nil) ?_
      refine Wc.fix (st' := ⟨[(4, (.v (.sl (List.map GIns.c [])), [])), (5, (.v (.sl (List.map cI.i64 l137_)), []))], [], []⟩) [.un (.t 4 0), .un (.t 5 0)] [4, 5] [] [] (by kernel_rfl) ?_
      refine Wc.ret ?_
      obtain rfl := Option.some.inj h
      exact ⟨.inl rfl, by kernel_rfl, by kernel_rfl⟩
    · refine Wc.condF h162 (by kernel_rfl) ?_
      refine Wc.fix (st' := ⟨[(2, (.ptr 2 0, [])), (6, (.v (.sl (List.map cI.i64 l137_)), [(0, .app 3)]))], [(2, .cells [.int .i64 c133_.gKind, .str c133_.gName, .int .i64 c133_.gNum, .sl (List.map GTerm.c c133_.gKids)] [])], []⟩) [] [2, 6] [2] [] (by kernel_rfl) ?_
      refine Wc.skip ?_
      refine Wc.seq ?_
      obtain ⟨m142_, h163, h⟩ := obind h
      refine Wc.region [{}, { c := some (List.map GIns.c []), md := 1 }, { tk := [6] }, { tk := [35], r := some (.v (.tup [.slx, .sl (List.map cI.i64 m142_.2)]) [(0, .ex 97 false (List.map GIns.c m142_.1))]) }, { tk := [37] }, {}, { tk := [38] }] [] [4, 5] [] [] ⟨[(4, (.v (.slx), [(0, .ex 97 false (List.map GIns.c m142_.1))])), (5, (.v (.sl (List.map cI.i64 m142_.2)), []))], [], []⟩ _ (by kernel_rfl) (.cons (cl_nil GIns.c) (.cons (cspec_l12Words h163) .nil)) ?_
      refine Wc.fix (st' := ⟨[(4, (.v (.sl (List.map GIns.c m142_.1)), [])), (5, (.v (.sl (List.map cI.i64 m142_.2)), []))], [], []⟩) [.sh (.t 4 0)] [4, 5] [] [] (by kernel_rfl) ?_
      refine Wc.ret ?_
      obtain rfl := Option.some.inj h
      exact ⟨.inl rfl, by kernel_rfl, by kernel_rfl⟩

def plaws_toIntS_L1 (k : Nat) (l143_ : List Int) : Nat → (List Int) → Int → Option (Out (List Int) (List Int))
  | 0, _, _ => none
  | m + 1, l144_, b145_ =>
    if (decide (b145_ < (l143_.length : Int))) = true then
      (at' l143_ b145_).bind fun b147_ =>
      (at' l144_ b145_).bind fun b148_ =>
      plaws_toIntS_L1 k l143_ m (l144_.set ((b145_).toNat) b147_) (wr.i64 (b145_ + 1))
    else
      some (.done l144_)
/-- laws.toIntS -/
def plaws_toIntS (k : Nat) (l143_ : List Int) : Option (List Int) :=
  if 0 ≤ (l143_.length : Int) ∧ (l143_.length : Int) ≤ 1073741824 then
    (plaws_toIntS_L1 k l143_ k (List.replicate ((l143_.length : Int)).toNat 0) 0).bind fun out1 => match out1 with
    | .ret r => some r
    | .done l146_ =>
      some l146_
  else none
theorem claws_toIntS {k : Nat} {l143_ : List Int} {r : (List Int)} (h : plaws_toIntS k l143_ = some r) : FnO Try.prog 30 [.v (.sl (List.map cI.i64 l143_)) []] (.v (.sl (List.map cI.i64 r)) []) [] := by
  refine FnO.of Try.func30 (rfl : Try.f30.body = some _) (Nat.le_of_ble_eq_true (by kernel_rfl)) (Nat.le_of_ble_eq_true (by kernel_rfl)) ?_
  intro w0 X0 Fin pv0 pb
  unfold plaws_toIntS at h
  refine Wc.seq ?_
  refine Wc.region [] [] [0] [] [] ⟨[(0, (.v (.sl (List.map cI.i64 l143_)), []))], [], []⟩ _ (by kernel_rfl) .nil ?_
  refine Wc.seq ?_
  obtain ⟨h164, h⟩ := oguard h
  refine Wc.region [{}, { v := some (.int .i64 (l143_.length : Int)) }, { c := some (List.map cI.i64 (List.replicate ((l143_.length : Int)).toNat 0)) }, { tk := [7] }] [] [0, 3] [] [] ⟨[(0, (.v (.sl (List.map cI.i64 l143_)), [])), (3, (.v (.slx), [(0, .ex 3 true (List.map cI.i64 (List.replicate ((l143_.length : Int)).toNat 0)))]))], [], []⟩ _ (by kernel_rfl) (.cons (len_obl cI.i64 l143_) (.cons (rep_re (c := cI.i64) (z := 0) rfl ((l143_.length : Int)).toNat) (.cons (ms_obl h164) .nil))) ?_
  refine Wc.seq ?_
  refine Wc.seq ?_
  refine Wc.region [] [] [0, 3, 4] [] [] ⟨[(0, (.v (.sl (List.map cI.i64 l143_)), [])), (3, (.v (.slx), [(0, .ex 3 true (List.map cI.i64 (List.replicate ((l143_.length : Int)).toNat 0)))])), (4, (.v (.int .i64 0), []))], [], []⟩ _ (by kernel_rfl) .nil ?_
  obtain ⟨out1, h165, h⟩ := obind h
  refine Wc.lastJ (fun st => ∃ (l146_ : List Int), out1 = .done l146_ ∧ st = ⟨[(3, (.v (.slx), [(0, .ex 3 true (List.map cI.i64 l146_))]))], [], []⟩) ?_ ?_
  · refine Wc.block ?_
    refine Wc.loop (fun m st => ∃ (l144_ : List Int) (b145_ : Int), st = ⟨[(0, (.v (.sl (List.map cI.i64 l143_)), [])), (3, (.v (.slx), [(0, .ex 3 true (List.map cI.i64 l144_))])), (4, (.v (.int .i64 b145_), []))], [], []⟩ ∧ plaws_toIntS_L1 k l143_ m l144_ b145_ = some out1) ?_ k ⟨_, _, rfl, h165⟩
    rintro m st ⟨l144_, b145_, rfl, h165⟩
    cases m with
    | zero => exact (onone h165).elim
    | succ m =>
      refine Wc.seq ?_
      refine Wc.seq ?_
      refine Wc.region [{}, {}, { v := some (.int .i64 (l143_.length : Int)) }] [] [0, 3, 4, 11] [] [] ⟨[(0, (.v (.sl (List.map cI.i64 l143_)), [])), (3, (.v (.slx), [(0, .ex 3 true (List.map cI.i64 l144_))])), (4, (.v (.int .i64 b145_), [])), (11, (.v (.bool (decide (b145_ < (l143_.length : Int)))), []))], [], []⟩ _ (by kernel_rfl) (.cons (len_obl cI.i64 l143_) .nil) ?_
      rcases oif h165 with ⟨h166, h165⟩ | ⟨h166, h165⟩
      · refine Wc.condT h166 (by kernel_rfl) ?_
        refine Wc.fix (st' := ⟨[(0, (.v (.sl (List.map cI.i64 l143_)), [])), (3, (.v (.slx), [(0, .ex 3 true (List.map cI.i64 l144_))])), (4, (.v (.int .i64 b145_), []))], [], []⟩) [] [0, 3, 4] [] [] (by kernel_rfl) ?_
        refine Wc.skip ?_
        refine Wc.seq ?_
        refine Wc.block ?_
        obtain ⟨b147_, h167, h165⟩ := obind h165
        obtain ⟨b148_, h168, h165⟩ := obind h165
        refine Wc.region [{}, {}, {}, {}, { v := some (.vptr [.int .i64 b147_]) }, {}, {}, { c := some (List.map cI.i64 (l144_.set ((b145_).toNat) b147_)) }] [] [0, 3, 4] [] [] ⟨[(0, (.v (.sl (List.map cI.i64 l143_)), [])), (3, (.v (.slx), [(0, .ex 3 true (List.map cI.i64 (l144_.set ((b145_).toNat) b147_)))])), (4, (.v (.int .i64 b145_), []))], [], []⟩ _ (by kernel_rfl) (.cons (at_obl (c := cI.i64) rfl cI.i64_len h167) (.cons (len_ok 1 [.int .i64 b147_]) (.cons (ix_obl (c := cI.i64) cI.i64_len h168) (.cons (mod_obl (off := 0) (new := [.int .i64 b147_]) (c := cI.i64) rfl rfl (at'_spec h168).2 rfl) (.cons (st_obl (sz := 1) (off := 0) (s := 1) (c := cI.i64) rfl (at'_spec h168).2 rfl (Nat.le_of_ble_eq_true rfl)) .nil))))) ?_
        refine Wc.region [] [] [0, 3, 4] [] [] ⟨[(0, (.v (.sl (List.map cI.i64 l143_)), [])), (3, (.v (.slx), [(0, .ex 3 true (List.map cI.i64 (l144_.set ((b145_).toNat) b147_)))])), (4, (.v (.int .i64 (wr.i64 (b145_ + 1))), []))], [], []⟩ _ (by kernel_rfl) .nil ?_
        exact ⟨_, Nat.lt_succ_self _, _, _, rfl, h165⟩
      · refine Wc.condF h166 (by kernel_rfl) ?_
        refine Wc.fix (st' := ⟨[(3, (.v (.slx), [(0, .ex 3 true (List.map cI.i64 l144_))]))], [], []⟩) [] [3] [] [] (by kernel_rfl) ?_
        refine Wc.exit ?_
        obtain rfl := Option.some.inj h165
        exact ⟨_, rfl, rfl⟩
  · rintro st ⟨l146_, rfl, rfl⟩
    refine Wc.seq ?_
    refine Wc.region [{ tk := [3] }, { tk := [21] }] [] [2] [] [] ⟨[(2, (.v (.slx), [(0, .ex 3 true (List.map cI.i64 l146_))]))], [], []⟩ _ (by kernel_rfl) .nil ?_
    refine Wc.fix (st' := ⟨[(2, (.v (.sl (List.map cI.i64 l146_)), []))], [], []⟩) [.sh (.t 2 0)] [2] [] [] (by kernel_rfl) ?_
    refine Wc.ret ?_
    obtain rfl := Option.some.inj h
    exact ⟨.inl rfl, by kernel_rfl, by kernel_rfl⟩

/-- impl.within -/
def pimpl_within (k : Nat) (b149_ : Int) (b150_ : Int) (b151_ : Int) : Option Bool :=
  if (decide (b149_ ≥ b150_)) = true then
    some (decide (b149_ ≤ b151_))
  else
    some false
theorem cimpl_within {k : Nat} {b149_ : Int} {b150_ : Int} {b151_ : Int} {r : Bool} (h : pimpl_within k b149_ b150_ b151_ = some r) : FnO Try.prog 109 [.v (.int .i64 b149_) [], .v (.int .i64 b150_) [], .v (.int .i64 b151_) []] (.v (.bool r) []) [] := by
  refine FnO.of Try.func109 (rfl : Try.f109.body = some _) (Nat.le_of_ble_eq_true (by kernel_rfl)) (Nat.le_of_ble_eq_true (by kernel_rfl)) ?_
  intro w0 X0 Fin pv0 pb
  unfold pimpl_within at h
  refine Wc.seq ?_
  refine Wc.region [] [] [0, 1, 2] [] [] ⟨[(0, (.v (.int .i64 b149_), [])), (1, (.v (.int .i64 b150_), [])), (2, (.v (.int .i64 b151_), []))], [], []⟩ _ (by kernel_rfl) .nil ?_
  refine Wc.seq ?_
  rcases oif h with ⟨h169, h⟩ | ⟨h169, h⟩
  · refine Wc.region [{}, {}, {}, { re := some (.bool true) }] [] [6] [] [] ⟨[(6, (.v (.bool (decide (b149_ ≤ b151_))), []))], [], []⟩ _ (by kernel_rfl) (.cons (congrArg AV.bool h169) .nil) ?_
    refine Wc.ret ?_
    obtain rfl := Option.some.inj h
    exact ⟨.inl rfl, by kernel_rfl, by kernel_rfl⟩
  · refine Wc.region [{}, {}, {}, { re := some (.bool false) }] [] [6] [] [] ⟨[(6, (.v (.bool false), []))], [], []⟩ _ (by kernel_rfl) (.cons (congrArg AV.bool h169) .nil) ?_
    refine Wc.ret ?_
    obtain rfl := Option.some.inj h
    exact ⟨.inl rfl, by kernel_rfl, by kernel_rfl⟩

def pimpl_nameOk_L1 (k : Nat) (f152_ : ByteArray) : Nat → Int → Option (Out Bool Unit)
  | 0, _ => none
  | m + 1, b153_ =>
    if (decide (b153_ < (f152_.size : Int))) = true then
      if 0 ≤ b153_ ∧ (b153_).toNat < f152_.size then
        (pimpl_within k (wr.i64 (bt f152_ b153_)) 33 126).bind fun e154_ =>
        if (!e154_) = true then
          some (.ret false)
        else
          if 0 ≤ b153_ ∧ (b153_).toNat < f152_.size then
            if ((bt f152_ b153_) == 39) = true then
              some (.ret false)
            else
              if 0 ≤ b153_ ∧ (b153_).toNat < f152_.size then
                if ((bt f152_ b153_) == 34) = true then
                  some (.ret false)
                else
                  pimpl_nameOk_L1 k f152_ m (wr.i64 (b153_ + 1))
              else none
          else none
      else none
    else
      some (.done ())
/-- impl.nameOk -/
def pimpl_nameOk (k : Nat) (f152_ : ByteArray) : Option Bool :=
  (pimpl_nameOk_L1 k f152_ k 0).bind fun out1 => match out1 with
  | .ret r => some r
  | .done () =>
    (pimpl_within k (f152_.size : Int) 1 20).bind fun e155_ =>
    some e155_
theorem cimpl_nameOk {k : Nat} {f152_ : ByteArray} {r : Bool} (h : pimpl_nameOk k f152_ = some r) : FnO Try.prog 129 [.v (.str f152_) []] (.v (.bool r) []) [] := by
  refine FnO.of Try.func129 (rfl : Try.f129.body = some _) (Nat.le_of_ble_eq_true (by kernel_rfl)) (Nat.le_of_ble_eq_true (by kernel_rfl)) ?_
  intro w0 X0 Fin pv0 pb
  unfold pimpl_nameOk at h
  refine Wc.seq ?_
  refine Wc.region [] [] [0] [] [] ⟨[(0, (.v (.str f152_), []))], [], []⟩ _ (by kernel_rfl) .nil ?_
  refine Wc.seq ?_
  refine Wc.seq ?_
  refine Wc.region [] [] [0, 3] [] [] ⟨[(0, (.v (.str f152_), [])), (3, (.v (.int .i64 0), []))], [], []⟩ _ (by kernel_rfl) .nil ?_
  obtain ⟨out1, h170, h⟩ := obind h
  refine Wc.lastJ (fun st => out1 = .done () ∧ st = ⟨[(0, (.v (.str f152_), []))], [], []⟩) ?_ ?_
  · refine Wc.block ?_
    refine Wc.loop (fun m st => ∃ (b153_ : Int), st = ⟨[(0, (.v (.str f152_), [])), (3, (.v (.int .i64 b153_), []))], [], []⟩ ∧ pimpl_nameOk_L1 k f152_ m b153_ = some out1) ?_ k ⟨_, rfl, h170⟩
    rintro m st ⟨b153_, rfl, h170⟩
    cases m with
    | zero => exact (onone h170).elim
    | succ m =>
      refine Wc.seq ?_
      refine Wc.seq ?_
      refine Wc.region [] [] [0, 3, 7] [] [] ⟨[(0, (.v (.str f152_), [])), (3, (.v (.int .i64 b153_), [])), (7, (.v (.bool (decide (b153_ < (f152_.size : Int)))), []))], [], []⟩ _ (by kernel_rfl) .nil ?_
      rcases oif h170 with ⟨h171, h170⟩ | ⟨h171, h170⟩
      · refine Wc.condT h171 (by kernel_rfl) ?_
        refine Wc.fix (st' := ⟨[(0, (.v (.str f152_), [])), (3, (.v (.int .i64 b153_), []))], [], []⟩) [] [0, 3] [] [] (by kernel_rfl) ?_
        refine Wc.skip ?_
        refine Wc.seq ?_
        refine Wc.block ?_
        refine Wc.seq ?_
        obtain ⟨h172, h170⟩ := oguard h170
        obtain ⟨e154_, h173, h170⟩ := obind h170
        rcases oif h170 with ⟨h174, h170⟩ | ⟨h174, h170⟩
        · refine Wc.region [{}, {}, {}, {}, { r := some (.v (.bool e154_) []) }, {}, { re := some (.bool true) }] [] [0, 3, 27] [] [] ⟨[(0, (.v (.str f152_), [])), (3, (.v (.int .i64 b153_), [])), (27, (.v (.bool true), []))], [], []⟩ _ (by kernel_rfl) (.cons h172 (.cons (cimpl_within h173) (.cons (congrArg AV.bool h174) .nil))) ?_
          refine Wc.condT rfl (by kernel_rfl) ?_
          refine Wc.seq ?_
          refine Wc.region [] [] [2] [] [] ⟨[(2, (.v (.bool false), []))], [], []⟩ _ (by kernel_rfl) .nil ?_
          refine Wc.ret ?_
          obtain rfl := Option.some.inj h170
          obtain rfl := Option.some.inj h
          exact ⟨.inl rfl, by kernel_rfl, by kernel_rfl⟩
        · obtain ⟨h175, h170⟩ := oguard h170
          rcases oif h170 with ⟨h176, h170⟩ | ⟨h176, h170⟩
          · refine Wc.region [{}, {}, {}, {}, { r := some (.v (.bool e154_) []) }, {}, { re := some (.bool false) }, {}, {}, {}, {}, {}, { re := some (.bool true) }] [] [0, 3, 27] [] [] ⟨[(0, (.v (.str f152_), [])), (3, (.v (.int .i64 b153_), [])), (27, (.v (.bool true), []))], [], []⟩ _ (by kernel_rfl) (.cons h172 (.cons (cimpl_within h173) (.cons (congrArg AV.bool h174) (.cons h175 (.cons (congrArg AV.bool h176) .nil))))) ?_
            refine Wc.condT rfl (by kernel_rfl) ?_
            refine Wc.seq ?_
            refine Wc.region [] [] [2] [] [] ⟨[(2, (.v (.bool false), []))], [], []⟩ _ (by kernel_rfl) .nil ?_
            refine Wc.ret ?_
            obtain rfl := Option.some.inj h170
            obtain rfl := Option.some.inj h
            exact ⟨.inl rfl, by kernel_rfl, by kernel_rfl⟩
          · obtain ⟨h177, h170⟩ := oguard h170
            refine Wc.region [{}, {}, {}, {}, { r := some (.v (.bool e154_) []) }, {}, { re := some (.bool false) }, {}, {}, {}, {}, {}, { re := some (.bool false) }] [] [0, 3, 27] [] [] ⟨[(0, (.v (.str f152_), [])), (3, (.v (.int .i64 b153_), [])), (27, (.v (.bool ((bt f152_ b153_) == 34)), []))], [], []⟩ _ (by kernel_rfl) (.cons h172 (.cons (cimpl_within h173) (.cons (congrArg AV.bool h174) (.cons h175 (.cons (congrArg AV.bool h176) (.cons h177 .nil)))))) ?_
            rcases oif h170 with ⟨h178, h170⟩ | ⟨h178, h170⟩
            · refine Wc.condT h178 (by kernel_rfl) ?_
              refine Wc.seq ?_
              refine Wc.region [] [] [2] [] [] ⟨[(2, (.v (.bool false), []))], [], []⟩ _ (by kernel_rfl) .nil ?_
              refine Wc.ret ?_
              obtain rfl := Option.some.inj h170
              obtain rfl := Option.some.inj h
              exact ⟨.inl rfl, by kernel_rfl, by kernel_rfl⟩
            · refine Wc.condF h178 (by kernel_rfl) ?_
              refine Wc.fix (st' := ⟨[(0, (.v (.str f152_), [])), (3, (.v (.int .i64 b153_), []))], [], []⟩) [] [0, 3] [] [] (by kernel_rfl) ?_
              refine Wc.skip ?_
              refine Wc.region [] [] [0, 3] [] [] ⟨[(0, (.v (.str f152_), [])), (3, (.v (.int .i64 (wr.i64 (b153_ + 1))), []))], [], []⟩ _ (by kernel_rfl) .nil ?_
              exact ⟨_, Nat.lt_succ_self _, _, rfl, h170⟩
      · refine Wc.condF h171 (by kernel_rfl) ?_
        refine Wc.fix (st' := ⟨[(0, (.v (.str f152_), []))], [], []⟩) [] [0] [] [] (by kernel_rfl) ?_
        refine Wc.exit ?_
        obtain rfl := Option.some.inj h170
        exact ⟨rfl, rfl⟩
  · rintro st ⟨rfl, rfl⟩
    refine Wc.seq ?_
    obtain ⟨e155_, h179, h⟩ := obind h
    refine Wc.region [{}, {}, { r := some (.v (.bool e155_) []) }] [] [2] [] [] ⟨[(2, (.v (.bool e155_), []))], [], []⟩ _ (by kernel_rfl) (.cons (cimpl_within h179) .nil) ?_
    refine Wc.ret ?_
    obtain rfl := Option.some.inj h
    exact ⟨.inl rfl, by kernel_rfl, by kernel_rfl⟩

def pimpl_sized_L2 (k : Nat) (rimpl_sized : GTerm → Int → Option Int) (c156_ : GTerm) (b157_ : Int) : Nat → Int → Int → Option (Out Int Int)
  | 0, _, _ => none
  | m + 1, b158_, b159_ =>
    if (decide (b159_ < (c156_.gKids.length : Int))) = true then
      (at' c156_.gKids b159_).bind fun c161_ =>
      (rimpl_sized c161_ (wr.i64 (b157_ + 1))).bind fun b162_ =>
      if (decide ((wr.i64 (b158_ + b162_)) > 400)) = true then
        some (.ret 401)
      else
        pimpl_sized_L2 k rimpl_sized c156_ b157_ m (wr.i64 (b158_ + b162_)) (wr.i64 (b159_ + 1))
    else
      some (.done b158_)
def pimpl_sized_J1 (k : Nat) (rimpl_sized : GTerm → Int → Option Int) (c156_ : GTerm) (b157_ : Int) : Option Int :=
  (pimpl_sized_L2 k rimpl_sized c156_ b157_ k 1 0).bind fun out2 => match out2 with
  | .ret r => some r
  | .done b160_ =>
    some b160_
mutual
/-- impl.sized -/
def pimpl_sized : Nat → GTerm → Int → Option Int
  | 0, _, _ => none
  | k + 1, c156_, b157_ =>
    if (decide (b157_ > 40)) = true then
      some 401
    else
      if (c156_.gKind == 1) = true then
        if (!(sEq c156_.gName (bs []))) = true then
          some 401
        else
          (pimpl_within k c156_.gNum 0 99999).bind fun e163_ =>
          if (!e163_) = true then
            some 401
          else
            if (decide ((c156_.gKids.length : Int) > 0)) = true then
              some 401
            else
              pimpl_sized_J1 k (pimpl_sized k) c156_ b157_
      else
        if (c156_.gKind == 2) = true then
          (pimpl_nameOk k c156_.gName).bind fun e164_ =>
          if (!e164_) = true then
            some 401
          else
            if (c156_.gNum != 0) = true then
              some 401
            else
              if (decide ((c156_.gKids.length : Int) > 0)) = true then
                some 401
              else
                pimpl_sized_J1 k (pimpl_sized k) c156_ b157_
        else
          if (c156_.gKind == 3) = true then
            if (!(sEq c156_.gName (bs []))) = true then
              some 401
            else
              (pimpl_within k c156_.gNum (-999999999) 999999999).bind fun e165_ =>
              if (!e165_) = true then
                some 401
              else
                if (decide ((c156_.gKids.length : Int) > 0)) = true then
                  some 401
                else
                  pimpl_sized_J1 k (pimpl_sized k) c156_ b157_
          else
            if (c156_.gKind == 4) = true then
              (pimpl_nameOk k c156_.gName).bind fun e166_ =>
              if (!e166_) = true then
                some 401
              else
                if (c156_.gNum != 0) = true then
                  some 401
                else
                  (pimpl_within k (c156_.gKids.length : Int) 1 5).bind fun e167_ =>
                  if (!e167_) = true then
                    some 401
                  else
                    pimpl_sized_J1 k (pimpl_sized k) c156_ b157_
            else
              some 401
end
theorem all_pimpl_sized : ∀ k : Nat, (∀ {c156_ : GTerm} {b157_ : Int} {r : Int}, pimpl_sized k c156_ b157_ = some r → FnO Try.prog 99 [.v (.agg [.int .i64 c156_.gKind, .str c156_.gName, .int .i64 c156_.gNum, .sl (List.map GTerm.c c156_.gKids)]) [], .v (.int .i64 b157_) []] (.v (.int .i64 r) []) []) := by
  intro k
  induction k with
  | zero =>
    · intro c156_ b157_ r h
      exact (onone (by rw [pimpl_sized] at h; exact h)).elim
  | succ k ih =>
    have ih_pimpl_sized := @ih
    · intro c156_ b157_ r h
      rw [pimpl_sized] at h
      refine FnO.of Try.func99 (rfl : Try.f99.body = some _) (Nat.le_of_ble_eq_true (by kernel_rfl)) (Nat.le_of_ble_eq_true (by kernel_rfl)) ?_
      intro w0 X0 Fin pv0 pb
      refine Wc.seq ?_
      refine Wc.region [] [] [1, 2] [2] [] ⟨[(1, (.v (.int .i64 b157_), [])), (2, (.ptr 2 0, []))], [(2, .cells [.int .i64 c156_.gKind, .str c156_.gName, .int .i64 c156_.gNum, .sl (List.map GTerm.c c156_.gKids)] [])], []⟩ _ (by kernel_rfl) .nil ?_
      refine Wc.seq ?_
      refine Wc.seq ?_
      refine Wc.region [] [] [1, 2, 9] [2] [] ⟨[(1, (.v (.int .i64 b157_), [])), (2, (.ptr 2 0, [])), (9, (.v (.bool (decide (b157_ > 40))), []))], [(2, .cells [.int .i64 c156_.gKind, .str c156_.gName, .int .i64 c156_.gNum, .sl (List.map GTerm.c c156_.gKids)] [])], []⟩ _ (by kernel_rfl) .nil ?_
      rcases oif h with ⟨h180, h⟩ | ⟨h180, h⟩
      · refine Wc.condT h180 (by kernel_rfl) ?_
        refine Wc.seq ?_
        refine Wc.region [] [] [4] [] [] ⟨[(4, (.v (.int .i64 401), []))], [], []⟩ _ (by kernel_rfl) .nil ?_
        refine Wc.ret ?_
        obtain rfl := Option.some.inj h
        exact ⟨.inl rfl, by kernel_rfl, by kernel_rfl⟩
      · refine Wc.condF h180 (by kernel_rfl) ?_
        refine Wc.fix (st' := ⟨[(1, (.v (.int .i64 b157_), [])), (2, (.ptr 2 0, []))], [(2, .cells [.int .i64 c156_.gKind, .str c156_.gName, .int .i64 c156_.gNum, .sl (List.map GTerm.c c156_.gKids)] [])], []⟩) [] [1, 2] [2] [] (by kernel_rfl) ?_
        refine Wc.skip ?_
        refine Wc.seqJ (fun st => st = ⟨[(1, (.v (.int .i64 b157_), [])), (2, (.ptr 2 0, []))], [(2, .cells [.int .i64 c156_.gKind, .str c156_.gName, .int .i64 c156_.gNum, .sl (List.map GTerm.c c156_.gKids)] [])], []⟩ ∧ pimpl_sized_J1 k (pimpl_sized k) c156_ b157_ = some r) ?_ ?_
        · refine Wc.seq ?_
          refine Wc.region [] [] [1, 2, 11] [2] [] ⟨[(1, (.v (.int .i64 b157_), [])), (2, (.ptr 2 0, [])), (11, (.v (.int .i64 c156_.gKind), []))], [(2, .cells [.int .i64 c156_.gKind, .str c156_.gName, .int .i64 c156_.gNum, .sl (List.map GTerm.c c156_.gKids)] [])], []⟩ _ (by kernel_rfl) .nil ?_
          refine Wc.block ?_
          refine Wc.seq ?_
          refine Wc.region [] [] [1, 2, 11, 12] [2] [] ⟨[(1, (.v (.int .i64 b157_), [])), (2, (.ptr 2 0, [])), (11, (.v (.int .i64 c156_.gKind), [])), (12, (.v (.bool (c156_.gKind == 1)), []))], [(2, .cells [.int .i64 c156_.gKind, .str c156_.gName, .int .i64 c156_.gNum, .sl (List.map GTerm.c c156_.gKids)] [])], []⟩ _ (by kernel_rfl) .nil ?_
          rcases oif h with ⟨h186, h⟩ | ⟨h186, h⟩
          · refine Wc.condT h186 (by kernel_rfl) ?_
            refine Wc.seq ?_
            rcases oif h with ⟨h187, h⟩ | ⟨h187, h⟩
            · refine Wc.region [{}, {}, {}, { re := some (.bool true) }] [] [1, 2, 28] [2] [] ⟨[(1, (.v (.int .i64 b157_), [])), (2, (.ptr 2 0, [])), (28, (.v (.bool true), []))], [(2, .cells [.int .i64 c156_.gKind, .str c156_.gName, .int .i64 c156_.gNum, .sl (List.map GTerm.c c156_.gKids)] [])], []⟩ _ (by kernel_rfl) (.cons (congrArg AV.bool h187) .nil) ?_
              refine Wc.condT rfl (by kernel_rfl) ?_
              refine Wc.seq ?_
              refine Wc.region [] [] [4] [] [] ⟨[(4, (.v (.int .i64 401), []))], [], []⟩ _ (by kernel_rfl) .nil ?_
              refine Wc.ret ?_
              obtain rfl := Option.some.inj h
              exact ⟨.inl rfl, by kernel_rfl, by kernel_rfl⟩
            · obtain ⟨e163_, h188, h⟩ := obind h
              rcases oif h with ⟨h189, h⟩ | ⟨h189, h⟩
              · refine Wc.region [{}, {}, {}, { re := some (.bool false) }, {}, {}, { r := some (.v (.bool e163_) []) }, {}, {}, { re := some (.bool true) }] [] [1, 2, 28] [2] [] ⟨[(1, (.v (.int .i64 b157_), [])), (2, (.ptr 2 0, [])), (28, (.v (.bool true), []))], [(2, .cells [.int .i64 c156_.gKind, .str c156_.gName, .int .i64 c156_.gNum, .sl (List.map GTerm.c c156_.gKids)] [])], []⟩ _ (by kernel_rfl) (.cons (congrArg AV.bool h187) (.cons (cimpl_within h188) (.cons (congrArg AV.bool h189) .nil))) ?_
                refine Wc.condT rfl (by kernel_rfl) ?_
                refine Wc.seq ?_
                refine Wc.region [] [] [4] [] [] ⟨[(4, (.v (.int .i64 401), []))], [], []⟩ _ (by kernel_rfl) .nil ?_
                refine Wc.ret ?_
                obtain rfl := Option.some.inj h
                exact ⟨.inl rfl, by kernel_rfl, by kernel_rfl⟩
              · refine Wc.region [{}, {}, {}, { re := some (.bool false) }, {}, {}, { r := some (.v (.bool e163_) []) }, {}, {}, { re := some (.bool false) }, {}, {}, { v := some (.int .i64 (c156_.gKids.length : Int)) }] [] [1, 2, 28] [2] [] ⟨[(1, (.v (.int .i64 b157_), [])), (2, (.ptr 2 0, [])), (28, (.v (.bool (decide ((c156_.gKids.length : Int) > 0))), []))], [(2, .cells [.int .i64 c156_.gKind, .str c156_.gName, .int .i64 c156_.gNum, .sl (List.map GTerm.c c156_.gKids)] [])], []⟩ _ (by kernel_rfl) (.cons (congrArg AV.bool h187) (.cons (cimpl_within h188) (.cons (congrArg AV.bool h189) (.cons (len_obl GTerm.c c156_.gKids) .nil)))) ?_
                rcases oif h with ⟨h190, h⟩ | ⟨h190, h⟩
                · refine Wc.condT h190 (by kernel_rfl) ?_
                  refine Wc.seq ?_
                  refine Wc.region [] [] [4] [] [] ⟨[(4, (.v (.int .i64 401), []))], [], []⟩ _ (by kernel_rfl) .nil ?_
                  refine Wc.ret ?_
                  obtain rfl := Option.some.inj h
                  exact ⟨.inl rfl, by kernel_rfl, by kernel_rfl⟩
                · refine Wc.condF h190 (by kernel_rfl) ?_
                  refine Wc.fix (st' := ⟨[(1, (.v (.int .i64 b157_), [])), (2, (.ptr 2 0, []))], [(2, .cells [.int .i64 c156_.gKind, .str c156_.gName, .int .i64 c156_.gNum, .sl (List.map GTerm.c c156_.gKids)] [])], []⟩) [] [1, 2] [2] [] (by kernel_rfl) ?_
                  refine Wc.skip ?_
                  exact ⟨rfl, h⟩
          · refine Wc.condF h186 (by kernel_rfl) ?_
            refine Wc.seq ?_
            refine Wc.region [] [] [1, 2, 11, 29] [2] [] ⟨[(1, (.v (.int .i64 b157_), [])), (2, (.ptr 2 0, [])), (11, (.v (.int .i64 c156_.gKind), [])), (29, (.v (.bool (c156_.gKind == 2)), []))], [(2, .cells [.int .i64 c156_.gKind, .str c156_.gName, .int .i64 c156_.gNum, .sl (List.map GTerm.c c156_.gKids)] [])], []⟩ _ (by kernel_rfl) .nil ?_
            rcases oif h with ⟨h191, h⟩ | ⟨h191, h⟩
            · refine Wc.condT h191 (by kernel_rfl) ?_
              refine Wc.seq ?_
              obtain ⟨e164_, h192, h⟩ := obind h
              rcases oif h with ⟨h193, h⟩ | ⟨h193, h⟩
              · refine Wc.region [{}, {}, { r := some (.v (.bool e164_) []) }, {}, { re := some (.bool true) }] [] [1, 2, 45] [2] [] ⟨[(1, (.v (.int .i64 b157_), [])), (2, (.ptr 2 0, [])), (45, (.v (.bool true), []))], [(2, .cells [.int .i64 c156_.gKind, .str c156_.gName, .int .i64 c156_.gNum, .sl (List.map GTerm.c c156_.gKids)] [])], []⟩ _ (by kernel_rfl) (.cons (cimpl_nameOk h192) (.cons (congrArg AV.bool h193) .nil)) ?_
                refine Wc.condT rfl (by kernel_rfl) ?_
                refine Wc.seq ?_
                refine Wc.region [] [] [4] [] [] ⟨[(4, (.v (.int .i64 401), []))], [], []⟩ _ (by kernel_rfl) .nil ?_
                refine Wc.ret ?_
                obtain rfl := Option.some.inj h
                exact ⟨.inl rfl, by kernel_rfl, by kernel_rfl⟩
              · rcases oif h with ⟨h194, h⟩ | ⟨h194, h⟩
                · refine Wc.region [{}, {}, { r := some (.v (.bool e164_) []) }, {}, { re := some (.bool false) }, {}, {}, {}, {}, { re := some (.bool true) }] [] [1, 2, 45] [2] [] ⟨[(1, (.v (.int .i64 b157_), [])), (2, (.ptr 2 0, [])), (45, (.v (.bool true), []))], [(2, .cells [.int .i64 c156_.gKind, .str c156_.gName, .int .i64 c156_.gNum, .sl (List.map GTerm.c c156_.gKids)] [])], []⟩ _ (by kernel_rfl) (.cons (cimpl_nameOk h192) (.cons (congrArg AV.bool h193) (.cons (congrArg AV.bool h194) .nil))) ?_
                  refine Wc.condT rfl (by kernel_rfl) ?_
                  refine Wc.seq ?_
                  refine Wc.region [] [] [4] [] [] ⟨[(4, (.v (.int .i64 401), []))], [], []⟩ _ (by kernel_rfl) .nil ?_
                  refine Wc.ret ?_
                  obtain rfl := Option.some.inj h
                  exact ⟨.inl rfl, by kernel_rfl, by kernel_rfl⟩
                · refine Wc.region [{}, {}, { r := some (.v (.bool e164_) []) }, {}, { re := some (.bool false) }, {}, {}, {}, {}, { re := some (.bool false) }, {}, {}, { v := some (.int .i64 (c156_.gKids.length : Int)) }] [] [1, 2, 45] [2] [] ⟨[(1, (.v (.int .i64 b157_), [])), (2, (.ptr 2 0, [])), (45, (.v (.bool (decide ((c156_.gKids.length : Int) > 0))), []))], [(2, .cells [.int .i64 c156_.gKind, .str c156_.gName, .int .i64 c156_.gNum, .sl (List.map GTerm.c c156_.gKids)] [])], []⟩ _ (by kernel_rfl) (.cons (cimpl_nameOk h192) (.cons (congrArg AV.bool h193) (.cons (congrArg AV.bool h194) (.cons (len_obl GTerm.c c156_.gKids) .nil)))) ?_
                  rcases oif h with ⟨h195, h⟩ | ⟨h195, h⟩
                  · refine Wc.condT h195 (by kernel_rfl) ?_
                    refine Wc.seq ?_
                    refine Wc.region [] [] [4] [] [] ⟨[(4, (.v (.int .i64 401), []))], [], []⟩ _ (by kernel_rfl) .nil ?_
                    refine Wc.ret ?_
                    obtain rfl := Option.some.inj h
                    exact ⟨.inl rfl, by kernel_rfl, by kernel_rfl⟩
                  · refine Wc.condF h195 (by kernel_rfl) ?_
                    refine Wc.fix (st' := ⟨[(1, (.v (.int .i64 b157_), [])), (2, (.ptr 2 0, []))], [(2, .cells [.int .i64 c156_.gKind, .str c156_.gName, .int .i64 c156_.gNum, .sl (List.map GTerm.c c156_.gKids)] [])], []⟩) [] [1, 2] [2] [] (by kernel_rfl) ?_
                    refine Wc.skip ?_
                    exact ⟨rfl, h⟩
            · refine Wc.condF h191 (by kernel_rfl) ?_
              refine Wc.seq ?_
              refine Wc.region [] [] [1, 2, 11, 46] [2] [] ⟨[(1, (.v (.int .i64 b157_), [])), (2, (.ptr 2 0, [])), (11, (.v (.int .i64 c156_.gKind), [])), (46, (.v (.bool (c156_.gKind == 3)), []))], [(2, .cells [.int .i64 c156_.gKind, .str c156_.gName, .int .i64 c156_.gNum, .sl (List.map GTerm.c c156_.gKids)] [])], []⟩ _ (by kernel_rfl) .nil ?_
              rcases oif h with ⟨h196, h⟩ | ⟨h196, h⟩
              · refine Wc.condT h196 (by kernel_rfl) ?_
                refine Wc.seq ?_
                rcases oif h with ⟨h197, h⟩ | ⟨h197, h⟩
                · refine Wc.region [{}, {}, {}, { re := some (.bool true) }] [] [1, 2, 62] [2] [] ⟨[(1, (.v (.int .i64 b157_), [])), (2, (.ptr 2 0, [])), (62, (.v (.bool true), []))], [(2, .cells [.int .i64 c156_.gKind, .str c156_.gName, .int .i64 c156_.gNum, .sl (List.map GTerm.c c156_.gKids)] [])], []⟩ _ (by kernel_rfl) (.cons (congrArg AV.bool h197) .nil) ?_
                  refine Wc.condT rfl (by kernel_rfl) ?_
                  refine Wc.seq ?_
                  refine Wc.region [] [] [4] [] [] ⟨[(4, (.v (.int .i64 401), []))], [], []⟩ _ (by kernel_rfl) .nil ?_
                  refine Wc.ret ?_
                  obtain rfl := Option.some.inj h
                  exact ⟨.inl rfl, by kernel_rfl, by kernel_rfl⟩
                · obtain ⟨e165_, h198, h⟩ := obind h
                  rcases oif h with ⟨h199, h⟩ | ⟨h199, h⟩
                  · refine Wc.region [{}, {}, {}, { re := some (.bool false) }, {}, {}, { r := some (.v (.bool e165_) []) }, {}, {}, { re := some (.bool true) }] [] [1, 2, 62] [2] [] ⟨[(1, (.v (.int .i64 b157_), [])), (2, (.ptr 2 0, [])), (62, (.v (.bool true), []))], [(2, .cells [.int .i64 c156_.gKind, .str c156_.gName, .int .i64 c156_.gNum, .sl (List.map GTerm.c c156_.gKids)] [])], []⟩ _ (by kernel_rfl) (.cons (congrArg AV.bool h197) (.cons (cimpl_within h198) (.cons (congrArg AV.bool h199) .nil))) ?_
                    refine Wc.condT rfl (by kernel_rfl) ?_
                    refine Wc.seq ?_
                    refine Wc.region [] [] [4] [] [] ⟨[(4, (.v (.int .i64 401), []))], [], []⟩ _ (by kernel_rfl) .nil ?_
                    refine Wc.ret ?_
                    obtain rfl := Option.some.inj h
                    exact ⟨.inl rfl, by kernel_rfl, by kernel_rfl⟩
                  · refine Wc.region [{}, {}, {}, { re := some (.bool false) }, {}, {}, { r := some (.v (.bool e165_) []) }, {}, {}, { re := some (.bool false) }, {}, {}, { v := some (.int .i64 (c156_.gKids.length : Int)) }] [] [1, 2, 62] [2] [] ⟨[(1, (.v (.int .i64 b157_), [])), (2, (.ptr 2 0, [])), (62, (.v (.bool (decide ((c156_.gKids.length : Int) > 0))), []))], [(2, .cells [.int .i64 c156_.gKind, .str c156_.gName, .int .i64 c156_.gNum, .sl (List.map GTerm.c c156_.gKids)] [])], []⟩ _ (by kernel_rfl) (.cons (congrArg AV.bool h197) (.cons (cimpl_within h198) (.cons (congrArg AV.bool h199) (.cons (len_obl GTerm.c c156_.gKids) .nil)))) ?_
                    rcases oif h with ⟨h200, h⟩ | ⟨h200, h⟩
                    · refine Wc.condT h200 (by kernel_rfl) ?_
                      refine Wc.seq ?_
                      refine Wc.region [] [] [4] [] [] ⟨[(4, (.v (.int .i64 401), []))], [], []⟩ _ (by kernel_rfl) .nil ?_
                      refine Wc.ret ?_
                      obtain rfl := Option.some.inj h
                      exact ⟨.inl rfl, by kernel_rfl, by kernel_rfl⟩
                    · refine Wc.condF h200 (by kernel_rfl) ?_
                      refine Wc.fix (st' := ⟨[(1, (.v (.int .i64 b157_), [])), (2, (.ptr 2 0, []))], [(2, .cells [.int .i64 c156_.gKind, .str c156_.gName, .int .i64 c156_.gNum, .sl (List.map GTerm.c c156_.gKids)] [])], []⟩) [] [1, 2] [2] [] (by kernel_rfl) ?_
                      refine Wc.skip ?_
                      exact ⟨rfl, h⟩
              · refine Wc.condF h196 (by kernel_rfl) ?_
                refine Wc.seq ?_
                refine Wc.region [] [] [1, 2, 63] [2] [] ⟨[(1, (.v (.int .i64 b157_), [])), (2, (.ptr 2 0, [])), (63, (.v (.bool (c156_.gKind == 4)), []))], [(2, .cells [.int .i64 c156_.gKind, .str c156_.gName, .int .i64 c156_.gNum, .sl (List.map GTerm.c c156_.gKids)] [])], []⟩ _ (by kernel_rfl) .nil ?_
                rcases oif h with ⟨h201, h⟩ | ⟨h201, h⟩
                · refine Wc.condT h201 (by kernel_rfl) ?_
                  refine Wc.seq ?_
                  obtain ⟨e166_, h202, h⟩ := obind h
                  rcases oif h with ⟨h203, h⟩ | ⟨h203, h⟩
                  · refine Wc.region [{}, {}, { r := some (.v (.bool e166_) []) }, {}, { re := some (.bool true) }] [] [1, 2, 80] [2] [] ⟨[(1, (.v (.int .i64 b157_), [])), (2, (.ptr 2 0, [])), (80, (.v (.bool true), []))], [(2, .cells [.int .i64 c156_.gKind, .str c156_.gName, .int .i64 c156_.gNum, .sl (List.map GTerm.c c156_.gKids)] [])], []⟩ _ (by kernel_rfl) (.cons (cimpl_nameOk h202) (.cons (congrArg AV.bool h203) .nil)) ?_
                    refine Wc.condT rfl (by kernel_rfl) ?_
                    refine Wc.seq ?_
                    refine Wc.region [] [] [4] [] [] ⟨[(4, (.v (.int .i64 401), []))], [], []⟩ _ (by kernel_rfl) .nil ?_
                    refine Wc.ret ?_
                    obtain rfl := Option.some.inj h
                    exact ⟨.inl rfl, by kernel_rfl, by kernel_rfl⟩
                  · rcases oif h with ⟨h204, h⟩ | ⟨h204, h⟩
                    · refine Wc.region [{}, {}, { r := some (.v (.bool e166_) []) }, {}, { re := some (.bool false) }, {}, {}, {}, {}, { re := some (.bool true) }] [] [1, 2, 80] [2] [] ⟨[(1, (.v (.int .i64 b157_), [])), (2, (.ptr 2 0, [])), (80, (.v (.bool true), []))], [(2, .cells [.int .i64 c156_.gKind, .str c156_.gName, .int .i64 c156_.gNum, .sl (List.map GTerm.c c156_.gKids)] [])], []⟩ _ (by kernel_rfl) (.cons (cimpl_nameOk h202) (.cons (congrArg AV.bool h203) (.cons (congrArg AV.bool h204) .nil))) ?_
                      refine Wc.condT rfl (by kernel_rfl) ?_
                      refine Wc.seq ?_
                      refine Wc.region [] [] [4] [] [] ⟨[(4, (.v (.int .i64 401), []))], [], []⟩ _ (by kernel_rfl) .nil ?_
                      refine Wc.ret ?_
                      obtain rfl := Option.some.inj h
                      exact ⟨.inl rfl, by kernel_rfl, by kernel_rfl⟩
                    · obtain ⟨e167_, h205, h⟩ := obind h
                      refine Wc.region [{}, {}, { r := some (.v (.bool e166_) []) }, {}, { re := some (.bool false) }, {}, {}, {}, {}, { re := some (.bool false) }, {}, {}, { v := some (.int .i64 (c156_.gKids.length : Int)) }, { r := some (.v (.bool e167_) []) }] [] [1, 2, 80] [2] [] ⟨[(1, (.v (.int .i64 b157_), [])), (2, (.ptr 2 0, [])), (80, (.v (.bool (!e167_)), []))], [(2, .cells [.int .i64 c156_.gKind, .str c156_.gName, .int .i64 c156_.gNum, .sl (List.map GTerm.c c156_.gKids)] [])], []⟩ _ (by kernel_rfl) (.cons (cimpl_nameOk h202) (.cons (congrArg AV.bool h203) (.cons (congrArg AV.bool h204) (.cons (len_obl GTerm.c c156_.gKids) (.cons (cimpl_within h205) .nil))))) ?_
                      rcases oif h with ⟨h206, h⟩ | ⟨h206, h⟩
                      · refine Wc.condT h206 (by kernel_rfl) ?_
                        refine Wc.seq ?_
                        refine Wc.region [] [] [4] [] [] ⟨[(4, (.v (.int .i64 401), []))], [], []⟩ _ (by kernel_rfl) .nil ?_
                        refine Wc.ret ?_
                        obtain rfl := Option.some.inj h
                        exact ⟨.inl rfl, by kernel_rfl, by kernel_rfl⟩
                      · refine Wc.condF h206 (by kernel_rfl) ?_
                        refine Wc.fix (st' := ⟨[(1, (.v (.int .i64 b157_), [])), (2, (.ptr 2 0, []))], [(2, .cells [.int .i64 c156_.gKind, .str c156_.gName, .int .i64 c156_.gNum, .sl (List.map GTerm.c c156_.gKids)] [])], []⟩) [] [1, 2] [2] [] (by kernel_rfl) ?_
                        refine Wc.skip ?_
                        exact ⟨rfl, h⟩
                · refine Wc.condF h201 (by kernel_rfl) ?_
                  refine Wc.seq ?_
                  refine Wc.region [] [] [4] [] [] ⟨[(4, (.v (.int .i64 401), []))], [], []⟩ _ (by kernel_rfl) .nil ?_
                  refine Wc.ret ?_
                  obtain rfl := Option.some.inj h
                  exact ⟨.inl rfl, by kernel_rfl, by kernel_rfl⟩
        · rintro st ⟨rfl, h⟩
          refine Wc.seq ?_
          refine Wc.region [] [] [1, 2, 5] [2] [] ⟨[(1, (.v (.int .i64 b157_), [])), (2, (.ptr 2 0, [])), (5, (.v (.int .i64 1), []))], [(2, .cells [.int .i64 c156_.gKind, .str c156_.gName, .int .i64 c156_.gNum, .sl (List.map GTerm.c c156_.gKids)] [])], []⟩ _ (by kernel_rfl) .nil ?_
          refine Wc.seq ?_
          refine Wc.seq ?_
          refine Wc.region [{}, {}, { v := some (.int .i64 (c156_.gKids.length : Int)) }] [] [1, 5, 82, 83, 84] [] [] ⟨[(1, (.v (.int .i64 b157_), [])), (5, (.v (.int .i64 1), [])), (82, (.v (.sl (List.map GTerm.c c156_.gKids)), [])), (83, (.v (.int .i64 (c156_.gKids.length : Int)), [])), (84, (.v (.int .i64 0), []))], [], []⟩ _ (by kernel_rfl) (.cons (len_obl GTerm.c c156_.gKids) .nil) ?_
          obtain ⟨out2, h181, h⟩ := obind h
          refine Wc.lastJ (fun st => ∃ (b160_ : Int), out2 = .done b160_ ∧ st = ⟨[(5, (.v (.int .i64 b160_), []))], [], []⟩) ?_ ?_
          · refine Wc.block ?_
            refine Wc.loop (fun m st => ∃ (b158_ : Int) (b159_ : Int), st = ⟨[(1, (.v (.int .i64 b157_), [])), (5, (.v (.int .i64 b158_), [])), (82, (.v (.sl (List.map GTerm.c c156_.gKids)), [])), (83, (.v (.int .i64 (c156_.gKids.length : Int)), [])), (84, (.v (.int .i64 b159_), []))], [], []⟩ ∧ pimpl_sized_L2 k (pimpl_sized k) c156_ b157_ m b158_ b159_ = some out2) ?_ k ⟨_, _, rfl, h181⟩
            rintro m st ⟨b158_, b159_, rfl, h181⟩
            cases m with
            | zero => exact (onone h181).elim
            | succ m =>
              refine Wc.seq ?_
              refine Wc.region [] [] [1, 5, 82, 83, 84, 85] [] [] ⟨[(1, (.v (.int .i64 b157_), [])), (5, (.v (.int .i64 b158_), [])), (82, (.v (.sl (List.map GTerm.c c156_.gKids)), [])), (83, (.v (.int .i64 (c156_.gKids.length : Int)), [])), (84, (.v (.int .i64 b159_), [])), (85, (.v (.bool (decide (b159_ < (c156_.gKids.length : Int)))), []))], [], []⟩ _ (by kernel_rfl) .nil ?_
              refine Wc.seq ?_
              rcases oif h181 with ⟨h182, h181⟩ | ⟨h182, h181⟩
              · refine Wc.condT h182 (by kernel_rfl) ?_
                refine Wc.fix (st' := ⟨[(1, (.v (.int .i64 b157_), [])), (5, (.v (.int .i64 b158_), [])), (82, (.v (.sl (List.map GTerm.c c156_.gKids)), [])), (83, (.v (.int .i64 (c156_.gKids.length : Int)), [])), (84, (.v (.int .i64 b159_), []))], [], []⟩) [] [1, 5, 82, 83, 84] [] [] (by kernel_rfl) ?_
                refine Wc.skip ?_
                refine Wc.seq ?_
                refine Wc.block ?_
                refine Wc.seq ?_
                obtain ⟨c161_, h183, h181⟩ := obind h181
                refine Wc.region [{ v := some (.vptr [.int .i64 c161_.gKind, .str c161_.gName, .int .i64 c161_.gNum, .sl (List.map GTerm.c c161_.gKids)]) }] [] [1, 5, 7, 82, 83, 84] [7] [] ⟨[(1, (.v (.int .i64 b157_), [])), (5, (.v (.int .i64 b158_), [])), (7, (.ptr 7 0, [])), (82, (.v (.sl (List.map GTerm.c c156_.gKids)), [])), (83, (.v (.int .i64 (c156_.gKids.length : Int)), [])), (84, (.v (.int .i64 b159_), []))], [(7, .cells [.int .i64 c161_.gKind, .str c161_.gName, .int .i64 c161_.gNum, .sl (List.map GTerm.c c161_.gKids)] [])], []⟩ _ (by kernel_rfl) (.cons (at_obl (c := GTerm.c) (GTerm.c_eq c161_) GTerm.c_len h183) (.cons (len_ok 4 [.int .i64 c161_.gKind, .str c161_.gName, .int .i64 c161_.gNum, .sl (List.map GTerm.c c161_.gKids)]) .nil)) ?_
                refine Wc.seq ?_
                obtain ⟨b162_, h184, h181⟩ := obind h181
                refine Wc.region [{}, {}, {}, {}, { r := some (.v (.int .i64 b162_) []) }] [] [1, 5, 82, 83, 84] [] [] ⟨[(1, (.v (.int .i64 b157_), [])), (5, (.v (.int .i64 (wr.i64 (b158_ + b162_))), [])), (82, (.v (.sl (List.map GTerm.c c156_.gKids)), [])), (83, (.v (.int .i64 (c156_.gKids.length : Int)), [])), (84, (.v (.int .i64 b159_), []))], [], []⟩ _ (by kernel_rfl) (.cons (ih_pimpl_sized h184) .nil) ?_
                refine Wc.seq ?_
                refine Wc.region [] [] [1, 5, 82, 83, 84, 95] [] [] ⟨[(1, (.v (.int .i64 b157_), [])), (5, (.v (.int .i64 (wr.i64 (b158_ + b162_))), [])), (82, (.v (.sl (List.map GTerm.c c156_.gKids)), [])), (83, (.v (.int .i64 (c156_.gKids.length : Int)), [])), (84, (.v (.int .i64 b159_), [])), (95, (.v (.bool (decide ((wr.i64 (b158_ + b162_)) > 400))), []))], [], []⟩ _ (by kernel_rfl) .nil ?_
                rcases oif h181 with ⟨h185, h181⟩ | ⟨h185, h181⟩
                · refine Wc.condT h185 (by kernel_rfl) ?_
                  refine Wc.seq ?_
                  refine Wc.region [] [] [4] [] [] ⟨[(4, (.v (.int .i64 401), []))], [], []⟩ _ (by kernel_rfl) .nil ?_
                  refine Wc.ret ?_
                  obtain rfl := Option.some.inj h181
                  obtain rfl := Option.some.inj h
                  exact ⟨.inl rfl, by kernel_rfl, by kernel_rfl⟩
                · refine Wc.condF h185 (by kernel_rfl) ?_
                  refine Wc.fix (st' := ⟨[(1, (.v (.int .i64 b157_), [])), (5, (.v (.int .i64 (wr.i64 (b158_ + b162_))), [])), (82, (.v (.sl (List.map GTerm.c c156_.gKids)), [])), (83, (.v (.int .i64 (c156_.gKids.length : Int)), [])), (84, (.v (.int .i64 b159_), []))], [], []⟩) [] [1, 5, 82, 83, 84] [] [] (by kernel_rfl) ?_
                  refine Wc.skip ?_
                  refine Wc.region [] [] [1, 5, 82, 83, 84] [] [] ⟨[(1, (.v (.int .i64 b157_), [])), (5, (.v (.int .i64 (wr.i64 (b158_ + b162_))), [])), (82, (.v (.sl (List.map GTerm.c c156_.gKids)), [])), (83, (.v (.int .i64 (c156_.gKids.length : Int)), [])), (84, (.v (.int .i64 (wr.i64 (b159_ + 1))), []))], [], []⟩ _ (by kernel_rfl) .nil ?_
                  exact ⟨_, Nat.lt_succ_self _, _, _, rfl, h181⟩
              · refine Wc.condF h182 (by kernel_rfl) ?_
                refine Wc.fix (st' := ⟨[(5, (.v (.int .i64 b158_), []))], [], []⟩) [] [5] [] [] (by kernel_rfl) ?_
                refine Wc.exit ?_
                obtain rfl := Option.some.inj h181
                exact ⟨_, rfl, rfl⟩
          · rintro st ⟨b160_, rfl, rfl⟩
            refine Wc.seq ?_
            refine Wc.region [] [] [4] [] [] ⟨[(4, (.v (.int .i64 b160_), []))], [], []⟩ _ (by kernel_rfl) .nil ?_
            refine Wc.ret ?_
            obtain rfl := Option.some.inj h
            exact ⟨.inl rfl, by kernel_rfl, by kernel_rfl⟩
theorem cimpl_sized {k : Nat} {c156_ : GTerm} {b157_ : Int} {r : Int} (h : pimpl_sized k c156_ b157_ = some r) : FnO Try.prog 99 [.v (.agg [.int .i64 c156_.gKind, .str c156_.gName, .int .i64 c156_.gNum, .sl (List.map GTerm.c c156_.gKids)]) [], .v (.int .i64 b157_) []] (.v (.int .i64 r) []) [] := (all_pimpl_sized k) h

/-- impl.TermOk -/
def pimpl_TermOk (k : Nat) (c168_ : GTerm) : Option Bool :=
  (pimpl_sized k c168_ 1).bind fun b169_ =>
  some (decide (b169_ ≤ 400))
theorem cimpl_TermOk {k : Nat} {c168_ : GTerm} {r : Bool} (h : pimpl_TermOk k c168_ = some r) : FnO Try.prog 59 [.v (.agg [.int .i64 c168_.gKind, .str c168_.gName, .int .i64 c168_.gNum, .sl (List.map GTerm.c c168_.gKids)]) []] (.v (.bool r) []) [] := by
  refine FnO.of Try.func59 (rfl : Try.f59.body = some _) (Nat.le_of_ble_eq_true (by kernel_rfl)) (Nat.le_of_ble_eq_true (by kernel_rfl)) ?_
  intro w0 X0 Fin pv0 pb
  unfold pimpl_TermOk at h
  refine Wc.seq ?_
  refine Wc.region [] [] [1] [1] [] ⟨[(1, (.ptr 1 0, []))], [(1, .cells [.int .i64 c168_.gKind, .str c168_.gName, .int .i64 c168_.gNum, .sl (List.map GTerm.c c168_.gKids)] [])], []⟩ _ (by kernel_rfl) .nil ?_
  refine Wc.seq ?_
  obtain ⟨b169_, h207, h⟩ := obind h
  refine Wc.region [{}, { r := some (.v (.int .i64 b169_) []) }] [] [2] [] [] ⟨[(2, (.v (.bool (decide (b169_ ≤ 400))), []))], [], []⟩ _ (by kernel_rfl) (.cons (cimpl_sized h207) .nil) ?_
  refine Wc.ret ?_
  obtain rfl := Option.some.inj h
  exact ⟨.inl rfl, by kernel_rfl, by kernel_rfl⟩

def pslices_Index___int_int__L1 (k : Nat) (l170_ : List Int) (b171_ : Int) : Nat → Int → Option (Out Int Unit)
  | 0, _ => none
  | m + 1, b172_ =>
    if (decide (b172_ < (l170_.length : Int))) = true then
      (at' l170_ b172_).bind fun b173_ =>
      if (b171_ == b173_) = true then
        some (.ret b172_)
      else
        pslices_Index___int_int__L1 k l170_ b171_ m (wr.i64 (b172_ + 1))
    else
      some (.done ())
/-- slices.Index[[]int,int] -/
def pslices_Index___int_int_ (k : Nat) (l170_ : List Int) (b171_ : Int) : Option Int :=
  (pslices_Index___int_int__L1 k l170_ b171_ k 0).bind fun out1 => match out1 with
  | .ret r => some r
  | .done () =>
    some (-1)
theorem cslices_Index___int_int_ {k : Nat} {l170_ : List Int} {b171_ : Int} {r : Int} (h : pslices_Index___int_int_ k l170_ b171_ = some r) : FnO Try.prog 110 [.v (.sl (List.map cI.i64 l170_)) [], .v (.int .i64 b171_) []] (.v (.int .i64 r) []) [] := by
  refine FnO.of Try.func110 (rfl : Try.f110.body = some _) (Nat.le_of_ble_eq_true (by kernel_rfl)) (Nat.le_of_ble_eq_true (by kernel_rfl)) ?_
  intro w0 X0 Fin pv0 pb
  unfold pslices_Index___int_int_ at h
  refine Wc.seq ?_
  refine Wc.region [] [] [0, 1] [] [] ⟨[(0, (.v (.sl (List.map cI.i64 l170_)), [])), (1, (.v (.int .i64 b171_), []))], [], []⟩ _ (by kernel_rfl) .nil ?_
  refine Wc.seq ?_
  refine Wc.seq ?_
  refine Wc.region [{}, { v := some (.int .i64 (l170_.length : Int)) }] [] [0, 1, 7, 8] [] [] ⟨[(0, (.v (.sl (List.map cI.i64 l170_)), [])), (1, (.v (.int .i64 b171_), [])), (7, (.v (.int .i64 (l170_.length : Int)), [])), (8, (.v (.int .i64 0), []))], [], []⟩ _ (by kernel_rfl) (.cons (len_obl cI.i64 l170_) .nil) ?_
  obtain ⟨out1, h208, h⟩ := obind h
  refine Wc.lastJ (fun st => out1 = .done () ∧ st = ⟨[], [], []⟩) ?_ ?_
  · refine Wc.block ?_
    refine Wc.loop (fun m st => ∃ (b172_ : Int), st = ⟨[(0, (.v (.sl (List.map cI.i64 l170_)), [])), (1, (.v (.int .i64 b171_), [])), (7, (.v (.int .i64 (l170_.length : Int)), [])), (8, (.v (.int .i64 b172_), []))], [], []⟩ ∧ pslices_Index___int_int__L1 k l170_ b171_ m b172_ = some out1) ?_ k ⟨_, rfl, h208⟩
    rintro m st ⟨b172_, rfl, h208⟩
    cases m with
    | zero => exact (onone h208).elim
    | succ m =>
      refine Wc.seq ?_
      refine Wc.region [] [] [0, 1, 7, 8, 9] [] [] ⟨[(0, (.v (.sl (List.map cI.i64 l170_)), [])), (1, (.v (.int .i64 b171_), [])), (7, (.v (.int .i64 (l170_.length : Int)), [])), (8, (.v (.int .i64 b172_), [])), (9, (.v (.bool (decide (b172_ < (l170_.length : Int)))), []))], [], []⟩ _ (by kernel_rfl) .nil ?_
      refine Wc.seq ?_
      rcases oif h208 with ⟨h209, h208⟩ | ⟨h209, h208⟩
      · refine Wc.condT h209 (by kernel_rfl) ?_
        refine Wc.fix (st' := ⟨[(0, (.v (.sl (List.map cI.i64 l170_)), [])), (1, (.v (.int .i64 b171_), [])), (7, (.v (.int .i64 (l170_.length : Int)), [])), (8, (.v (.int .i64 b172_), []))], [], []⟩) [] [0, 1, 7, 8] [] [] (by kernel_rfl) ?_
        refine Wc.skip ?_
        refine Wc.seq ?_
        refine Wc.block ?_
        refine Wc.seq ?_
        refine Wc.region [] [] [0, 1, 5, 7, 8] [] [] ⟨[(0, (.v (.sl (List.map cI.i64 l170_)), [])), (1, (.v (.int .i64 b171_), [])), (5, (.v (.int .i64 b172_), [])), (7, (.v (.int .i64 (l170_.length : Int)), [])), (8, (.v (.int .i64 b172_), []))], [], []⟩ _ (by kernel_rfl) .nil ?_
        refine Wc.seq ?_
        obtain ⟨b173_, h210, h208⟩ := obind h208
        refine Wc.region [{}, {}, {}, { v := some (.vptr [.int .i64 b173_]) }] [] [0, 1, 5, 7, 8, 16] [] [] ⟨[(0, (.v (.sl (List.map cI.i64 l170_)), [])), (1, (.v (.int .i64 b171_), [])), (5, (.v (.int .i64 b172_), [])), (7, (.v (.int .i64 (l170_.length : Int)), [])), (8, (.v (.int .i64 b172_), [])), (16, (.v (.bool (b171_ == b173_)), []))], [], []⟩ _ (by kernel_rfl) (.cons (at_obl (c := cI.i64) rfl cI.i64_len h210) (.cons (len_ok 1 [.int .i64 b173_]) .nil)) ?_
        rcases oif h208 with ⟨h211, h208⟩ | ⟨h211, h208⟩
        · refine Wc.condT h211 (by kernel_rfl) ?_
          refine Wc.seq ?_
          refine Wc.region [] [] [4] [] [] ⟨[(4, (.v (.int .i64 b172_), []))], [], []⟩ _ (by kernel_rfl) .nil ?_
          refine Wc.ret ?_
          obtain rfl := Option.some.inj h208
          obtain rfl := Option.some.inj h
          exact ⟨.inl rfl, by kernel_rfl, by kernel_rfl⟩
        · refine Wc.condF h211 (by kernel_rfl) ?_
          refine Wc.fix (st' := ⟨[(0, (.v (.sl (List.map cI.i64 l170_)), [])), (1, (.v (.int .i64 b171_), [])), (7, (.v (.int .i64 (l170_.length : Int)), [])), (8, (.v (.int .i64 b172_), []))], [], []⟩) [] [0, 1, 7, 8] [] [] (by kernel_rfl) ?_
          refine Wc.skip ?_
          refine Wc.region [] [] [0, 1, 7, 8] [] [] ⟨[(0, (.v (.sl (List.map cI.i64 l170_)), [])), (1, (.v (.int .i64 b171_), [])), (7, (.v (.int .i64 (l170_.length : Int)), [])), (8, (.v (.int .i64 (wr.i64 (b172_ + 1))), []))], [], []⟩ _ (by kernel_rfl) .nil ?_
          exact ⟨_, Nat.lt_succ_self _, _, rfl, h208⟩
      · refine Wc.condF h209 (by kernel_rfl) ?_
        refine Wc.fix (st' := ⟨[], [], []⟩) [] [] [] [] (by kernel_rfl) ?_
        refine Wc.exit ?_
        obtain rfl := Option.some.inj h208
        exact ⟨rfl, rfl⟩
  · rintro st ⟨rfl, rfl⟩
    refine Wc.seq ?_
    refine Wc.region [] [] [4] [] [] ⟨[(4, (.v (.int .i64 (-1)), []))], [], []⟩ _ (by kernel_rfl) .nil ?_
    refine Wc.ret ?_
    obtain rfl := Option.some.inj h
    exact ⟨.inl rfl, by kernel_rfl, by kernel_rfl⟩

/-- slices.Contains[[]int,int] -/
def pslices_Contains___int_int_ (k : Nat) (l174_ : List Int) (b175_ : Int) : Option Bool :=
  (pslices_Index___int_int_ k l174_ b175_).bind fun b176_ =>
  some (decide (b176_ ≥ 0))
theorem cslices_Contains___int_int_ {k : Nat} {l174_ : List Int} {b175_ : Int} {r : Bool} (h : pslices_Contains___int_int_ k l174_ b175_ = some r) : FnO Try.prog 72 [.v (.sl (List.map cI.i64 l174_)) [], .v (.int .i64 b175_) []] (.v (.bool r) []) [] := by
  refine FnO.of Try.func72 (rfl : Try.f72.body = some _) (Nat.le_of_ble_eq_true (by kernel_rfl)) (Nat.le_of_ble_eq_true (by kernel_rfl)) ?_
  intro w0 X0 Fin pv0 pb
  unfold pslices_Contains___int_int_ at h
  refine Wc.seq ?_
  refine Wc.region [] [] [0, 1] [] [] ⟨[(0, (.v (.sl (List.map cI.i64 l174_)), [])), (1, (.v (.int .i64 b175_), []))], [], []⟩ _ (by kernel_rfl) .nil ?_
  refine Wc.seq ?_
  obtain ⟨b176_, h212, h⟩ := obind h
  refine Wc.region [{}, {}, { r := some (.v (.int .i64 b176_) []) }] [] [4] [] [] ⟨[(4, (.v (.bool (decide (b176_ ≥ 0))), []))], [], []⟩ _ (by kernel_rfl) (.cons (cslices_Index___int_int_ h212) .nil) ?_
  refine Wc.ret ?_
  obtain rfl := Option.some.inj h
  exact ⟨.inl rfl, by kernel_rfl, by kernel_rfl⟩

def pimpl_wordsOf_L1 (k : Nat) (rimpl_wordsOf : GTerm → (List Int) → Option ((List GIns) × (List Int))) (c187_ : GTerm) : Nat → (List Int) → (List GIns) → Int → Option (Out ((List GIns) × (List Int)) ((List Int) × (List GIns)))
  | 0, _, _, _ => none
  | m + 1, l190_, j191_, b192_ =>
    if (decide (b192_ < (c187_.gKids.length : Int))) = true then
      (at' c187_.gKids b192_).bind fun c195_ =>
      (rimpl_wordsOf c195_ l190_).bind fun m196_ =>
      if j191_.length + m196_.1.length ≤ 1073741824 then
        pimpl_wordsOf_L1 k rimpl_wordsOf c187_ m m196_.2 (j191_ ++ m196_.1) (wr.i64 (b192_ + 1))
      else none
    else
      some (.done (l190_, j191_))
mutual
/-- impl.wordsOf -/
def pimpl_wordsOf : Nat → GTerm → (List Int) → Option ((List GIns) × (List Int))
  | 0, _, _ => none
  | k + 1, c187_, l188_ =>
    if (c187_.gKind == 2) = true then
      some ([GIns.mk 1 c187_.gName 0 0], l188_)
    else
      if (c187_.gKind == 3) = true then
        some ([GIns.mk 2 (bs []) c187_.gNum 0], l188_)
      else
        if (c187_.gKind == 1) = true then
          (pslices_Contains___int_int_ k l188_ c187_.gNum).bind fun e189_ =>
          if e189_ = true then
            some ([GIns.mk 4 (bs []) c187_.gNum 0], l188_)
          else
            if l188_.length + [c187_.gNum].length ≤ 1073741824 then
              some ([GIns.mk 3 (bs []) c187_.gNum 0], l188_ ++ [c187_.gNum])
            else none
        else
          (pimpl_wordsOf_L1 k (pimpl_wordsOf k) c187_ k l188_ [GIns.mk 5 c187_.gName 0 (c187_.gKids.length : Int)] 0).bind fun out1 => match out1 with
          | .ret r => some r
          | .done (l193_, j194_) =>
            some (j194_, l193_)
end
theorem all_pimpl_wordsOf : ∀ k : Nat, (∀ {c187_ : GTerm} {l188_ : List Int} {r : (List GIns) × (List Int)}, pimpl_wordsOf k c187_ l188_ = some r → FnO Try.prog 73 [.v (.agg [.int .i64 c187_.gKind, .str c187_.gName, .int .i64 c187_.gNum, .sl (List.map GTerm.c c187_.gKids)]) [], .v (.slx) [(0, .ex 3 false (List.map cI.i64 l188_))]] (.v (.tup [.sl (List.map GIns.c r.1), .slx]) [(0, .app 97), (1, .ex 3 false (List.map cI.i64 r.2))]) []) := by
  intro k
  induction k with
  | zero =>
    · intro c187_ l188_ r h
      exact (onone (by rw [pimpl_wordsOf] at h; exact h)).elim
  | succ k ih =>
    have ih_pimpl_wordsOf := @ih
    · intro c187_ l188_ r h
      rw [pimpl_wordsOf] at h
      refine FnO.of Try.func73 (rfl : Try.f73.body = some _) (Nat.le_of_ble_eq_true (by kernel_rfl)) (Nat.le_of_ble_eq_true (by kernel_rfl)) ?_
      intro w0 X0 Fin pv0 pb
      refine Wc.seq ?_
      refine Wc.region [] [] [1, 2] [2] [] ⟨[(1, (.v (.slx), [(0, .ex 3 false (List.map cI.i64 l188_))])), (2, (.ptr 2 0, []))], [(2, .cells [.int .i64 c187_.gKind, .str c187_.gName, .int .i64 c187_.gNum, .sl (List.map GTerm.c c187_.gKids)] [])], []⟩ _ (by kernel_rfl) .nil ?_
      refine Wc.seq ?_
      refine Wc.seq ?_
      refine Wc.region [] [] [1, 2, 11] [2] [] ⟨[(1, (.v (.slx), [(0, .ex 3 false (List.map cI.i64 l188_))])), (2, (.ptr 2 0, [])), (11, (.v (.int .i64 c187_.gKind), []))], [(2, .cells [.int .i64 c187_.gKind, .str c187_.gName, .int .i64 c187_.gNum, .sl (List.map GTerm.c c187_.gKids)] [])], []⟩ _ (by kernel_rfl) .nil ?_
      refine Wc.block ?_
      refine Wc.seq ?_
      refine Wc.region [] [] [1, 2, 11, 12] [2] [] ⟨[(1, (.v (.slx), [(0, .ex 3 false (List.map cI.i64 l188_))])), (2, (.ptr 2 0, [])), (11, (.v (.int .i64 c187_.gKind), [])), (12, (.v (.bool (c187_.gKind == 2)), []))], [(2, .cells [.int .i64 c187_.gKind, .str c187_.gName, .int .i64 c187_.gNum, .sl (List.map GTerm.c c187_.gKids)] [])], []⟩ _ (by kernel_rfl) .nil ?_
      rcases oif h with ⟨h224, h⟩ | ⟨h224, h⟩
      · refine Wc.condT h224 (by kernel_rfl) ?_
        refine Wc.seq ?_
        refine Wc.region [{}, {}, {}, { c := some (List.map GIns.c [GIns.mk 1 c187_.gName 0 0]) }, { tk := [1] }, { tk := [17] }, { tk := [18] }] [] [4, 5] [] [] ⟨[(4, (.v (.sl (List.map GIns.c [GIns.mk 1 c187_.gName 0 0])), [(0, .app 97)])), (5, (.v (.slx), [(0, .ex 3 false (List.map cI.i64 l188_))]))], [], []⟩ _ (by kernel_rfl) (.cons (cl_cons (c := GIns.c) (x := GIns.mk 1 c187_.gName 0 0) (GIns.c_eq (GIns.mk 1 c187_.gName 0 0)) (cl_nil GIns.c)) .nil) ?_
        refine Wc.ret ?_
        obtain rfl := Option.some.inj h
        exact ⟨.inl rfl, by kernel_rfl, by kernel_rfl⟩
      · refine Wc.condF h224 (by kernel_rfl) ?_
        refine Wc.seq ?_
        refine Wc.region [] [] [1, 2, 11, 19] [2] [] ⟨[(1, (.v (.slx), [(0, .ex 3 false (List.map cI.i64 l188_))])), (2, (.ptr 2 0, [])), (11, (.v (.int .i64 c187_.gKind), [])), (19, (.v (.bool (c187_.gKind == 3)), []))], [(2, .cells [.int .i64 c187_.gKind, .str c187_.gName, .int .i64 c187_.gNum, .sl (List.map GTerm.c c187_.gKids)] [])], []⟩ _ (by kernel_rfl) .nil ?_
        rcases oif h with ⟨h225, h⟩ | ⟨h225, h⟩
        · refine Wc.condT h225 (by kernel_rfl) ?_
          refine Wc.seq ?_
          refine Wc.region [{}, {}, {}, { c := some (List.map GIns.c [GIns.mk 2 (bs []) c187_.gNum 0]) }, { tk := [1] }, { tk := [24] }, { tk := [25] }] [] [4, 5] [] [] ⟨[(4, (.v (.sl (List.map GIns.c [GIns.mk 2 (bs []) c187_.gNum 0])), [(0, .app 97)])), (5, (.v (.slx), [(0, .ex 3 false (List.map cI.i64 l188_))]))], [], []⟩ _ (by kernel_rfl) (.cons (cl_cons (c := GIns.c) (x := GIns.mk 2 (bs []) c187_.gNum 0) (GIns.c_eq (GIns.mk 2 (bs []) c187_.gNum 0)) (cl_nil GIns.c)) .nil) ?_
          refine Wc.ret ?_
          obtain rfl := Option.some.inj h
          exact ⟨.inl rfl, by kernel_rfl, by kernel_rfl⟩
        · refine Wc.condF h225 (by kernel_rfl) ?_
          refine Wc.seq ?_
          refine Wc.region [] [] [1, 2, 26] [2] [] ⟨[(1, (.v (.slx), [(0, .ex 3 false (List.map cI.i64 l188_))])), (2, (.ptr 2 0, [])), (26, (.v (.bool (c187_.gKind == 1)), []))], [(2, .cells [.int .i64 c187_.gKind, .str c187_.gName, .int .i64 c187_.gNum, .sl (List.map GTerm.c c187_.gKids)] [])], []⟩ _ (by kernel_rfl) .nil ?_
          rcases oif h with ⟨h226, h⟩ | ⟨h226, h⟩
          · refine Wc.condT h226 (by kernel_rfl) ?_
            refine Wc.seq ?_
            refine Wc.seq ?_
            obtain ⟨e189_, h227, h⟩ := obind h
            refine Wc.region [{}, {}, {}, { r := some (.v (.bool e189_) []) }] [] [1, 2, 31] [2] [] ⟨[(1, (.v (.slx), [(0, .ex 3 false (List.map cI.i64 l188_))])), (2, (.ptr 2 0, [])), (31, (.v (.bool e189_), []))], [(2, .cells [.int .i64 c187_.gKind, .str c187_.gName, .int .i64 c187_.gNum, .sl (List.map GTerm.c c187_.gKids)] [])], []⟩ _ (by kernel_rfl) (.cons (cslices_Contains___int_int_ h227) .nil) ?_
            rcases oif h with ⟨h228, h⟩ | ⟨h228, h⟩
            · refine Wc.condT h228 (by kernel_rfl) ?_
              refine Wc.seq ?_
              refine Wc.region [{}, {}, {}, { c := some (List.map GIns.c [GIns.mk 4 (bs []) c187_.gNum 0]) }, { tk := [1] }, { tk := [35] }, { tk := [36] }] [] [4, 5] [] [] ⟨[(4, (.v (.sl (List.map GIns.c [GIns.mk 4 (bs []) c187_.gNum 0])), [(0, .app 97)])), (5, (.v (.slx), [(0, .ex 3 false (List.map cI.i64 l188_))]))], [], []⟩ _ (by kernel_rfl) (.cons (cl_cons (c := GIns.c) (x := GIns.mk 4 (bs []) c187_.gNum 0) (GIns.c_eq (GIns.mk 4 (bs []) c187_.gNum 0)) (cl_nil GIns.c)) .nil) ?_
              refine Wc.ret ?_
              obtain rfl := Option.some.inj h
              exact ⟨.inl rfl, by kernel_rfl, by kernel_rfl⟩
            · refine Wc.condF h228 (by kernel_rfl) ?_
              refine Wc.fix (st' := ⟨[(1, (.v (.slx), [(0, .ex 3 false (List.map cI.i64 l188_))])), (2, (.ptr 2 0, []))], [(2, .cells [.int .i64 c187_.gKind, .str c187_.gName, .int .i64 c187_.gNum, .sl (List.map GTerm.c c187_.gKids)] [])], []⟩) [] [1, 2] [2] [] (by kernel_rfl) ?_
              refine Wc.skip ?_
              refine Wc.seq ?_
              obtain ⟨h229, h⟩ := oguard h
              refine Wc.draw hmix [{}, {}, {}, { c := some (List.map GIns.c [GIns.mk 3 (bs []) c187_.gNum 0]) }, { tk := [1] }, {}, {}, { c := some (List.map cI.i64 [c187_.gNum]) }, { c := some (List.map cI.i64 (l188_ ++ [c187_.gNum])), tk := [41], md := 1 }, { tk := [40] }, { tk := [45] }] [] [4, 5] [] [] ⟨[(4, (.v (.sl (List.map GIns.c [GIns.mk 3 (bs []) c187_.gNum 0])), [(0, .app 97)])), (5, (.v (.slx), [(0, .ex 3 false (List.map cI.i64 (l188_ ++ [c187_.gNum])))]))], [], []⟩ _ (by kernel_rfl) (fun X => by kernel_rfl) (.cons (cl_cons (c := GIns.c) (x := GIns.mk 3 (bs []) c187_.gNum 0) (GIns.c_eq (GIns.mk 3 (bs []) c187_.gNum 0)) (cl_nil GIns.c)) (.cons (cl_cons (c := cI.i64) (x := c187_.gNum) rfl (cl_nil cI.i64)) (.cons (app_re2 cI.i64 l188_ [c187_.gNum]) (.cons (app_leaf (c := cI.i64) (ys := [c187_.gNum]) cI.i64_leaf) (.cons (app_obl2 (c := cI.i64) (xs := l188_) (ys := [c187_.gNum]) cI.i64_len h229) .nil))))) ?_
              refine Wc.ret ?_
              obtain rfl := Option.some.inj h
              exact ⟨.inl rfl, by kernel_rfl, by kernel_rfl⟩
          · refine Wc.condF h226 (by kernel_rfl) ?_
            refine Wc.fix (st' := ⟨[(1, (.v (.slx), [(0, .ex 3 false (List.map cI.i64 l188_))])), (2, (.ptr 2 0, []))], [(2, .cells [.int .i64 c187_.gKind, .str c187_.gName, .int .i64 c187_.gNum, .sl (List.map GTerm.c c187_.gKids)] [])], []⟩) [] [1, 2] [2] [] (by kernel_rfl) ?_
            refine Wc.skip ?_
            refine Wc.seq ?_
            refine Wc.region [{}, {}, {}, {}, { v := some (.int .i64 (c187_.gKids.length : Int)) }, {}, { c := some (List.map GIns.c [GIns.mk 5 c187_.gName 0 (c187_.gKids.length : Int)]) }, { tk := [52] }] [] [1, 2, 6] [2] [] ⟨[(1, (.v (.slx), [(0, .ex 3 false (List.map cI.i64 l188_))])), (2, (.ptr 2 0, [])), (6, (.v (.sl (List.map GIns.c [GIns.mk 5 c187_.gName 0 (c187_.gKids.length : Int)])), [(0, .app 97)]))], [(2, .cells [.int .i64 c187_.gKind, .str c187_.gName, .int .i64 c187_.gNum, .sl (List.map GTerm.c c187_.gKids)] [])], []⟩ _ (by kernel_rfl) (.cons (len_obl GTerm.c c187_.gKids) (.cons (cl_cons (c := GIns.c) (x := GIns.mk 5 c187_.gName 0 (c187_.gKids.length : Int)) (GIns.c_eq (GIns.mk 5 c187_.gName 0 (c187_.gKids.length : Int))) (cl_nil GIns.c)) .nil)) ?_
            refine Wc.seq ?_
            refine Wc.seq ?_
            refine Wc.region [{}, {}, { v := some (.int .i64 (c187_.gKids.length : Int)) }] [] [1, 6, 54, 55, 56] [] [] ⟨[(1, (.v (.slx), [(0, .ex 3 false (List.map cI.i64 l188_))])), (6, (.v (.sl (List.map GIns.c [GIns.mk 5 c187_.gName 0 (c187_.gKids.length : Int)])), [(0, .app 97)])), (54, (.v (.sl (List.map GTerm.c c187_.gKids)), [])), (55, (.v (.int .i64 (c187_.gKids.length : Int)), [])), (56, (.v (.int .i64 0), []))], [], []⟩ _ (by kernel_rfl) (.cons (len_obl GTerm.c c187_.gKids) .nil) ?_
            obtain ⟨out1, h230, h⟩ := obind h
            refine Wc.lastJ (fun st => ∃ (l193_ : List Int) (j194_ : List GIns), out1 = .done (l193_, j194_) ∧ st = ⟨[(1, (.v (.slx), [(0, .ex 3 false (List.map cI.i64 l193_))])), (6, (.v (.sl (List.map GIns.c j194_)), [(0, .app 97)]))], [], []⟩) ?_ ?_
            · refine Wc.block ?_
              refine Wc.loop (fun m st => ∃ (l190_ : List Int) (j191_ : List GIns) (b192_ : Int), st = ⟨[(1, (.v (.slx), [(0, .ex 3 false (List.map cI.i64 l190_))])), (6, (.v (.sl (List.map GIns.c j191_)), [(0, .app 97)])), (54, (.v (.sl (List.map GTerm.c c187_.gKids)), [])), (55, (.v (.int .i64 (c187_.gKids.length : Int)), [])), (56, (.v (.int .i64 b192_), []))], [], []⟩ ∧ pimpl_wordsOf_L1 k (pimpl_wordsOf k) c187_ m l190_ j191_ b192_ = some out1) ?_ k ⟨_, _, _, rfl, h230⟩
              rintro m st ⟨l190_, j191_, b192_, rfl, h230⟩
              cases m with
              | zero => exact (onone h230).elim
              | succ m =>
                refine Wc.seq ?_
                refine Wc.region [] [] [1, 6, 54, 55, 56, 57] [] [] ⟨[(1, (.v (.slx), [(0, .ex 3 false (List.map cI.i64 l190_))])), (6, (.v (.sl (List.map GIns.c j191_)), [(0, .app 97)])), (54, (.v (.sl (List.map GTerm.c c187_.gKids)), [])), (55, (.v (.int .i64 (c187_.gKids.length : Int)), [])), (56, (.v (.int .i64 b192_), [])), (57, (.v (.bool (decide (b192_ < (c187_.gKids.length : Int)))), []))], [], []⟩ _ (by kernel_rfl) .nil ?_
                refine Wc.seq ?_
                rcases oif h230 with ⟨h231, h230⟩ | ⟨h231, h230⟩
                · refine Wc.condT h231 (by kernel_rfl) ?_
                  refine Wc.fix (st' := ⟨[(1, (.v (.slx), [(0, .ex 3 false (List.map cI.i64 l190_))])), (6, (.v (.sl (List.map GIns.c j191_)), [(0, .app 97)])), (54, (.v (.sl (List.map GTerm.c c187_.gKids)), [])), (55, (.v (.int .i64 (c187_.gKids.length : Int)), [])), (56, (.v (.int .i64 b192_), []))], [], []⟩) [] [1, 6, 54, 55, 56] [] [] (by kernel_rfl) ?_
                  refine Wc.skip ?_
                  refine Wc.seq ?_
                  refine Wc.block ?_
                  refine Wc.seq ?_
                  obtain ⟨c195_, h232, h230⟩ := obind h230
                  refine Wc.region [{ v := some (.vptr [.int .i64 c195_.gKind, .str c195_.gName, .int .i64 c195_.gNum, .sl (List.map GTerm.c c195_.gKids)]) }] [] [1, 6, 8, 54, 55, 56] [8] [] ⟨[(1, (.v (.slx), [(0, .ex 3 false (List.map cI.i64 l190_))])), (6, (.v (.sl (List.map GIns.c j191_)), [(0, .app 97)])), (8, (.ptr 8 0, [])), (54, (.v (.sl (List.map GTerm.c c187_.gKids)), [])), (55, (.v (.int .i64 (c187_.gKids.length : Int)), [])), (56, (.v (.int .i64 b192_), []))], [(8, .cells [.int .i64 c195_.gKind, .str c195_.gName, .int .i64 c195_.gNum, .sl (List.map GTerm.c c195_.gKids)] [])], []⟩ _ (by kernel_rfl) (.cons (at_obl (c := GTerm.c) (GTerm.c_eq c195_) GTerm.c_len h232) (.cons (len_ok 4 [.int .i64 c195_.gKind, .str c195_.gName, .int .i64 c195_.gNum, .sl (List.map GTerm.c c195_.gKids)]) .nil)) ?_
                  refine Wc.seq ?_
                  refine Wc.region [] [] [1, 6, 8, 54, 55, 56] [8] [] ⟨[(1, (.v (.slx), [(0, .ex 3 false (List.map cI.i64 l190_))])), (6, (.v (.sl (List.map GIns.c j191_)), [(0, .app 97)])), (8, (.ptr 8 0, [])), (54, (.v (.sl (List.map GTerm.c c187_.gKids)), [])), (55, (.v (.int .i64 (c187_.gKids.length : Int)), [])), (56, (.v (.int .i64 b192_), []))], [(8, .cells [.int .i64 c195_.gKind, .str c195_.gName, .int .i64 c195_.gNum, .sl (List.map GTerm.c c195_.gKids)] [])], []⟩ _ (by kernel_rfl) .nil ?_
                  refine Wc.seq ?_
                  obtain ⟨m196_, h233, h230⟩ := obind h230
                  refine Wc.region [{}, { tk := [1] }, { tk := [62], r := some (.v (.tup [.sl (List.map GIns.c m196_.1), .slx]) [(0, .app 97), (1, .ex 3 false (List.map cI.i64 m196_.2))]) }, { tk := [63] }, { tk := [60] }, { tk := [60] }, { tk := [64] }, { tk := [65] }] [] [1, 6, 9, 54, 55, 56] [] [] ⟨[(1, (.v (.slx), [(0, .ex 3 false (List.map cI.i64 m196_.2))])), (6, (.v (.sl (List.map GIns.c j191_)), [(0, .app 97)])), (9, (.v (.sl (List.map GIns.c m196_.1)), [(0, .app 97)])), (54, (.v (.sl (List.map GTerm.c c187_.gKids)), [])), (55, (.v (.int .i64 (c187_.gKids.length : Int)), [])), (56, (.v (.int .i64 b192_), []))], [], []⟩ _ (by kernel_rfl) (.cons (ih_pimpl_wordsOf h233) .nil) ?_
                  obtain ⟨h234, h230⟩ := oguard h230
                  refine Wc.region [{ tk := [6] }, { tk := [9] }, { c := some (List.map GIns.c (j191_ ++ m196_.1)), tk := [66] }, { tk := [68] }] [] [1, 6, 54, 55, 56] [] [] ⟨[(1, (.v (.slx), [(0, .ex 3 false (List.map cI.i64 m196_.2))])), (6, (.v (.sl (List.map GIns.c (j191_ ++ m196_.1))), [(0, .app 97)])), (54, (.v (.sl (List.map GTerm.c c187_.gKids)), [])), (55, (.v (.int .i64 (c187_.gKids.length : Int)), [])), (56, (.v (.int .i64 b192_), []))], [], []⟩ _ (by kernel_rfl) (.cons (app_re2 GIns.c j191_ m196_.1) (.cons (app_leaf (c := GIns.c) (ys := m196_.1) GIns.c_leaf) (.cons (app_obl2 (c := GIns.c) (xs := j191_) (ys := m196_.1) GIns.c_len h234) .nil))) ?_
                  refine Wc.region [] [] [1, 6, 54, 55, 56] [] [] ⟨[(1, (.v (.slx), [(0, .ex 3 false (List.map cI.i64 m196_.2))])), (6, (.v (.sl (List.map GIns.c (j191_ ++ m196_.1))), [(0, .app 97)])), (54, (.v (.sl (List.map GTerm.c c187_.gKids)), [])), (55, (.v (.int .i64 (c187_.gKids.length : Int)), [])), (56, (.v (.int .i64 (wr.i64 (b192_ + 1))), []))], [], []⟩ _ (by kernel_rfl) .nil ?_
                  exact ⟨_, Nat.lt_succ_self _, _, _, _, rfl, h230⟩
                · refine Wc.condF h231 (by kernel_rfl) ?_
                  refine Wc.fix (st' := ⟨[(1, (.v (.slx), [(0, .ex 3 false (List.map cI.i64 l190_))])), (6, (.v (.sl (List.map GIns.c j191_)), [(0, .app 97)]))], [], []⟩) [] [1, 6] [] [] (by kernel_rfl) ?_
                  refine Wc.exit ?_
                  obtain rfl := Option.some.inj h230
                  exact ⟨_, _, rfl, rfl⟩
            · rintro st ⟨l193_, j194_, rfl, rfl⟩
              refine Wc.seq ?_
              refine Wc.region [{ tk := [6] }, { tk := [1] }, { tk := [70] }, { tk := [71] }] [] [4, 5] [] [] ⟨[(4, (.v (.sl (List.map GIns.c j194_)), [(0, .app 97)])), (5, (.v (.slx), [(0, .ex 3 false (List.map cI.i64 l193_))]))], [], []⟩ _ (by kernel_rfl) .nil ?_
              refine Wc.ret ?_
              obtain rfl := Option.some.inj h
              exact ⟨.inl rfl, by kernel_rfl, by kernel_rfl⟩
theorem cimpl_wordsOf {k : Nat} {c187_ : GTerm} {l188_ : List Int} {r : (List GIns) × (List Int)} (h : pimpl_wordsOf k c187_ l188_ = some r) : FnO Try.prog 73 [.v (.agg [.int .i64 c187_.gKind, .str c187_.gName, .int .i64 c187_.gNum, .sl (List.map GTerm.c c187_.gKids)]) [], .v (.slx) [(0, .ex 3 false (List.map cI.i64 l188_))]] (.v (.tup [.sl (List.map GIns.c r.1), .slx]) [(0, .app 97), (1, .ex 3 false (List.map cI.i64 r.2))]) [] := (all_pimpl_wordsOf k) h

def pimpl_WordsOf_L1 (k : Nat) (l207_ : List Int) : Nat → (List Int) → Int → Option (Out ((List GIns) × (List Int)) (List Int))
  | 0, _, _ => none
  | m + 1, l208_, b209_ =>
    if (decide (b209_ < (l207_.length : Int))) = true then
      (at' l207_ b209_).bind fun b211_ =>
      (pslices_Contains___int_int_ k l208_ b211_).bind fun e212_ =>
      if (!e212_) = true then
        if l208_.length + [b211_].length ≤ 1073741824 then
          pimpl_WordsOf_L1 k l207_ m (l208_ ++ [b211_]) (wr.i64 (b209_ + 1))
        else none
      else
        pimpl_WordsOf_L1 k l207_ m l208_ (wr.i64 (b209_ + 1))
    else
      some (.done l208_)
/-- impl.WordsOf -/
def pimpl_WordsOf (k : Nat) (c206_ : GTerm) (l207_ : List Int) : Option ((List GIns) × (List Int)) :=
  (pimpl_WordsOf_L1 k l207_ k [] 0).bind fun out1 => match out1 with
  | .ret r => some r
  | .done l210_ =>
    (pimpl_TermOk k c206_).bind fun e213_ =>
    if (!e213_) = true then
      some ([], l210_)
    else
      (pimpl_wordsOf k c206_ l210_).bind fun m214_ =>
      some (m214_.1, m214_.2)
theorem cimpl_WordsOf {k : Nat} {c206_ : GTerm} {l207_ : List Int} {r : (List GIns) × (List Int)} (h : pimpl_WordsOf k c206_ l207_ = some r) : FnO Try.prog 31 [.v (.agg [.int .i64 c206_.gKind, .str c206_.gName, .int .i64 c206_.gNum, .sl (List.map GTerm.c c206_.gKids)]) [], .v (.sl (List.map cI.i64 l207_)) []] (.v (.tup [.sl (List.map GIns.c r.1), .sl (List.map cI.i64 r.2)]) [(0, .app 97)]) [] := by
  refine FnO.of Try.func31 (rfl : Try.f31.body = some _) (Nat.le_of_ble_eq_true (by kernel_rfl)) (Nat.le_of_ble_eq_true (by kernel_rfl)) ?_
  intro w0 X0 Fin pv0 pb
  unfold pimpl_WordsOf at h
  refine Wc.seq ?_
  refine Wc.region [] [] [1, 2] [2] [] ⟨[(1, (.v (.sl (List.map cI.i64 l207_)), [])), (2, (.ptr 2 0, []))], [(2, .cells [.int .i64 c206_.gKind, .str c206_.gName, .int .i64 c206_.gNum, .sl (List.map GTerm.c c206_.gKids)] [])], []⟩ _ (by kernel_rfl) .nil ?_
  refine Wc.seq ?_
  refine Wc.region [] [] [1, 2, 6] [2] [] ⟨[(1, (.v (.sl (List.map cI.i64 l207_)), [])), (2, (.ptr 2 0, [])), (6, (.v (.sl (List.map cI.i64 [])), [(0, .app 3)]))], [(2, .cells [.int .i64 c206_.gKind, .str c206_.gName, .int .i64 c206_.gNum, .sl (List.map GTerm.c c206_.gKids)] [])], []⟩ _ (by kernel_rfl) .nil ?_
  refine Wc.seq ?_
  refine Wc.seq ?_
  refine Wc.region [{}, { v := some (.int .i64 (l207_.length : Int)) }] [] [2, 6, 9, 10, 11] [2] [] ⟨[(2, (.ptr 2 0, [])), (6, (.v (.sl (List.map cI.i64 [])), [(0, .app 3)])), (9, (.v (.sl (List.map cI.i64 l207_)), [])), (10, (.v (.int .i64 (l207_.length : Int)), [])), (11, (.v (.int .i64 0), []))], [(2, .cells [.int .i64 c206_.gKind, .str c206_.gName, .int .i64 c206_.gNum, .sl (List.map GTerm.c c206_.gKids)] [])], []⟩ _ (by kernel_rfl) (.cons (len_obl cI.i64 l207_) .nil) ?_
  obtain ⟨out1, h244, h⟩ := obind h
  refine Wc.lastJ (fun st => ∃ (l210_ : List Int), out1 = .done l210_ ∧ st = ⟨[(2, (.ptr 2 0, [])), (6, (.v (.slx), [(0, .ex 3 false (List.map cI.i64 l210_))]))], [(2, .cells [.int .i64 c206_.gKind, .str c206_.gName, .int .i64 c206_.gNum, .sl (List.map GTerm.c c206_.gKids)] [])], []⟩) ?_ ?_
  · refine Wc.block ?_
    refine Wc.fix (st' := ⟨[(2, (.ptr 2 0, [])), (6, (.v (.slx), [(0, .ex 3 false (List.map cI.i64 []))])), (9, (.v (.sl (List.map cI.i64 l207_)), [])), (10, (.v (.int .i64 (l207_.length : Int)), [])), (11, (.v (.int .i64 0), []))], [(2, .cells [.int .i64 c206_.gKind, .str c206_.gName, .int .i64 c206_.gNum, .sl (List.map GTerm.c c206_.gKids)] [])], []⟩) [.ow (.t 6 0) false] [2, 6, 9, 10, 11] [2] [] (by kernel_rfl) ?_
    refine Wc.loop (fun m st => ∃ (l208_ : List Int) (b209_ : Int), st = ⟨[(2, (.ptr 2 0, [])), (6, (.v (.slx), [(0, .ex 3 false (List.map cI.i64 l208_))])), (9, (.v (.sl (List.map cI.i64 l207_)), [])), (10, (.v (.int .i64 (l207_.length : Int)), [])), (11, (.v (.int .i64 b209_), []))], [(2, .cells [.int .i64 c206_.gKind, .str c206_.gName, .int .i64 c206_.gNum, .sl (List.map GTerm.c c206_.gKids)] [])], []⟩ ∧ pimpl_WordsOf_L1 k l207_ m l208_ b209_ = some out1) ?_ k ⟨_, _, rfl, h244⟩
    rintro m st ⟨l208_, b209_, rfl, h244⟩
    cases m with
    | zero => exact (onone h244).elim
    | succ m =>
      refine Wc.seq ?_
      refine Wc.region [] [] [2, 6, 9, 10, 11, 12] [2] [] ⟨[(2, (.ptr 2 0, [])), (6, (.v (.slx), [(0, .ex 3 false (List.map cI.i64 l208_))])), (9, (.v (.sl (List.map cI.i64 l207_)), [])), (10, (.v (.int .i64 (l207_.length : Int)), [])), (11, (.v (.int .i64 b209_), [])), (12, (.v (.bool (decide (b209_ < (l207_.length : Int)))), []))], [(2, .cells [.int .i64 c206_.gKind, .str c206_.gName, .int .i64 c206_.gNum, .sl (List.map GTerm.c c206_.gKids)] [])], []⟩ _ (by kernel_rfl) .nil ?_
      refine Wc.seq ?_
      rcases oif h244 with ⟨h245, h244⟩ | ⟨h245, h244⟩
      · refine Wc.condT h245 (by kernel_rfl) ?_
        refine Wc.fix (st' := ⟨[(2, (.ptr 2 0, [])), (6, (.v (.slx), [(0, .ex 3 false (List.map cI.i64 l208_))])), (9, (.v (.sl (List.map cI.i64 l207_)), [])), (10, (.v (.int .i64 (l207_.length : Int)), [])), (11, (.v (.int .i64 b209_), []))], [(2, .cells [.int .i64 c206_.gKind, .str c206_.gName, .int .i64 c206_.gNum, .sl (List.map GTerm.c c206_.gKids)] [])], []⟩) [] [2, 6, 9, 10, 11] [2] [] (by kernel_rfl) ?_
        refine Wc.skip ?_
        refine Wc.seq ?_
        refine Wc.block ?_
        refine Wc.seq ?_
        obtain ⟨b211_, h246, h244⟩ := obind h244
        refine Wc.region [{ v := some (.vptr [.int .i64 b211_]) }] [] [2, 6, 8, 9, 10, 11] [2] [] ⟨[(2, (.ptr 2 0, [])), (6, (.v (.slx), [(0, .ex 3 false (List.map cI.i64 l208_))])), (8, (.v (.int .i64 b211_), [])), (9, (.v (.sl (List.map cI.i64 l207_)), [])), (10, (.v (.int .i64 (l207_.length : Int)), [])), (11, (.v (.int .i64 b209_), []))], [(2, .cells [.int .i64 c206_.gKind, .str c206_.gName, .int .i64 c206_.gNum, .sl (List.map GTerm.c c206_.gKids)] [])], []⟩ _ (by kernel_rfl) (.cons (at_obl (c := cI.i64) rfl cI.i64_len h246) (.cons (len_ok 1 [.int .i64 b211_]) .nil)) ?_
        refine Wc.seq ?_
        obtain ⟨e212_, h247, h244⟩ := obind h244
        refine Wc.region [{}, {}, { r := some (.v (.bool e212_) []) }] [] [2, 6, 8, 9, 10, 11, 18] [2] [] ⟨[(2, (.ptr 2 0, [])), (6, (.v (.slx), [(0, .ex 3 false (List.map cI.i64 l208_))])), (8, (.v (.int .i64 b211_), [])), (9, (.v (.sl (List.map cI.i64 l207_)), [])), (10, (.v (.int .i64 (l207_.length : Int)), [])), (11, (.v (.int .i64 b209_), [])), (18, (.v (.bool (!e212_)), []))], [(2, .cells [.int .i64 c206_.gKind, .str c206_.gName, .int .i64 c206_.gNum, .sl (List.map GTerm.c c206_.gKids)] [])], []⟩ _ (by kernel_rfl) (.cons (cslices_Contains___int_int_ h247) .nil) ?_
        rcases oif h244 with ⟨h248, h244⟩ | ⟨h248, h244⟩
        · refine Wc.condT h248 (by kernel_rfl) ?_
          obtain ⟨h249, h244⟩ := oguard h244
          refine Wc.region [{ tk := [6] }, {}, { c := some (List.map cI.i64 [b211_]) }, { c := some (List.map cI.i64 (l208_ ++ [b211_])), tk := [19], md := 1 }, { tk := [22] }] [] [2, 6, 9, 10, 11] [2] [] ⟨[(2, (.ptr 2 0, [])), (6, (.v (.slx), [(0, .ex 3 false (List.map cI.i64 (l208_ ++ [b211_])))])), (9, (.v (.sl (List.map cI.i64 l207_)), [])), (10, (.v (.int .i64 (l207_.length : Int)), [])), (11, (.v (.int .i64 b209_), []))], [(2, .cells [.int .i64 c206_.gKind, .str c206_.gName, .int .i64 c206_.gNum, .sl (List.map GTerm.c c206_.gKids)] [])], []⟩ _ (by kernel_rfl) (.cons (cl_cons (c := cI.i64) (x := b211_) rfl (cl_nil cI.i64)) (.cons (app_re2 cI.i64 l208_ [b211_]) (.cons (app_leaf (c := cI.i64) (ys := [b211_]) cI.i64_leaf) (.cons (app_obl2 (c := cI.i64) (xs := l208_) (ys := [b211_]) cI.i64_len h249) .nil)))) ?_
          refine Wc.region [] [] [2, 6, 9, 10, 11] [2] [] ⟨[(2, (.ptr 2 0, [])), (6, (.v (.slx), [(0, .ex 3 false (List.map cI.i64 (l208_ ++ [b211_])))])), (9, (.v (.sl (List.map cI.i64 l207_)), [])), (10, (.v (.int .i64 (l207_.length : Int)), [])), (11, (.v (.int .i64 (wr.i64 (b209_ + 1))), []))], [(2, .cells [.int .i64 c206_.gKind, .str c206_.gName, .int .i64 c206_.gNum, .sl (List.map GTerm.c c206_.gKids)] [])], []⟩ _ (by kernel_rfl) .nil ?_
          exact ⟨_, Nat.lt_succ_self _, _, _, rfl, h244⟩
        · refine Wc.condF h248 (by kernel_rfl) ?_
          refine Wc.fix (st' := ⟨[(2, (.ptr 2 0, [])), (6, (.v (.slx), [(0, .ex 3 false (List.map cI.i64 l208_))])), (9, (.v (.sl (List.map cI.i64 l207_)), [])), (10, (.v (.int .i64 (l207_.length : Int)), [])), (11, (.v (.int .i64 b209_), []))], [(2, .cells [.int .i64 c206_.gKind, .str c206_.gName, .int .i64 c206_.gNum, .sl (List.map GTerm.c c206_.gKids)] [])], []⟩) [] [2, 6, 9, 10, 11] [2] [] (by kernel_rfl) ?_
          refine Wc.skip ?_
          refine Wc.region [] [] [2, 6, 9, 10, 11] [2] [] ⟨[(2, (.ptr 2 0, [])), (6, (.v (.slx), [(0, .ex 3 false (List.map cI.i64 l208_))])), (9, (.v (.sl (List.map cI.i64 l207_)), [])), (10, (.v (.int .i64 (l207_.length : Int)), [])), (11, (.v (.int .i64 (wr.i64 (b209_ + 1))), []))], [(2, .cells [.int .i64 c206_.gKind, .str c206_.gName, .int .i64 c206_.gNum, .sl (List.map GTerm.c c206_.gKids)] [])], []⟩ _ (by kernel_rfl) .nil ?_
          exact ⟨_, Nat.lt_succ_self _, _, _, rfl, h244⟩
      · refine Wc.condF h245 (by kernel_rfl) ?_
        refine Wc.fix (st' := ⟨[(2, (.ptr 2 0, [])), (6, (.v (.slx), [(0, .ex 3 false (List.map cI.i64 l208_))]))], [(2, .cells [.int .i64 c206_.gKind, .str c206_.gName, .int .i64 c206_.gNum, .sl (List.map GTerm.c c206_.gKids)] [])], []⟩) [] [2, 6] [2] [] (by kernel_rfl) ?_
        refine Wc.exit ?_
        obtain rfl := Option.some.inj h244
        exact ⟨_, rfl, rfl⟩
  · rintro st ⟨l210_, rfl, rfl⟩
    refine Wc.seq ?_
    refine Wc.seq ?_
    obtain ⟨e213_, h250, h⟩ := obind h
    refine Wc.region [{}, { r := some (.v (.bool e213_) []) }] [] [2, 6, 26] [2] [] ⟨[(2, (.ptr 2 0, [])), (6, (.v (.slx), [(0, .ex 3 false (List.map cI.i64 l210_))])), (26, (.v (.bool (!e213_)), []))], [(2, .cells [.int .i64 c206_.gKind, .str c206_.gName, .int .i64 c206_.gNum, .sl (List.map GTerm.c c206_.gKids)] [])], []⟩ _ (by kernel_rfl) (.cons (cimpl_TermOk h250) .nil) ?_
    rcases oif h with ⟨h251, h⟩ | ⟨h251, h⟩
    · refine Wc.condT h251 (by kernel_rfl) ?_
      refine Wc.seq ?_
      refine Wc.region [{ tk := [6] }, {}, { tk := [27] }] [] [4, 5] [] [] ⟨[(4, (.v (.sl (List.map GIns.c [])), [(0, .app 97)])), (5, (.v (.slx), [(0, .ex 3 false (List.map cI.i64 l210_))]))], [], []⟩ _ (by kernel_rfl) .nil ?_
      refine Wc.fix (st' := ⟨[(4, (.v (.sl (List.map GIns.c [])), [(0, .app 97)])), (5, (.v (.sl (List.map cI.i64 l210_)), []))], [], []⟩) [.sh (.t 5 0)] [4, 5] [] [] (by kernel_rfl) ?_
      refine Wc.ret ?_
      obtain rfl := Option.some.inj h
      exact ⟨.inl rfl, by kernel_rfl, by kernel_rfl⟩
    · refine Wc.condF h251 (by kernel_rfl) ?_
      refine Wc.fix (st' := ⟨[(2, (.ptr 2 0, [])), (6, (.v (.slx), [(0, .ex 3 false (List.map cI.i64 l210_))]))], [(2, .cells [.int .i64 c206_.gKind, .str c206_.gName, .int .i64 c206_.gNum, .sl (List.map GTerm.c c206_.gKids)] [])], []⟩) [] [2, 6] [2] [] (by kernel_rfl) ?_
      refine Wc.skip ?_
      refine Wc.seq ?_
      obtain ⟨m214_, h252, h⟩ := obind h
      refine Wc.region [{}, { tk := [6] }, { tk := [29], r := some (.v (.tup [.sl (List.map GIns.c m214_.1), .slx]) [(0, .app 97), (1, .ex 3 false (List.map cI.i64 m214_.2))]) }, { tk := [30] }, { tk := [30] }, { tk := [31] }, { tk := [32] }] [] [4, 5] [] [] ⟨[(4, (.v (.sl (List.map GIns.c m214_.1)), [(0, .app 97)])), (5, (.v (.slx), [(0, .ex 3 false (List.map cI.i64 m214_.2))]))], [], []⟩ _ (by kernel_rfl) (.cons (cimpl_wordsOf h252) .nil) ?_
      refine Wc.fix (st' := ⟨[(4, (.v (.sl (List.map GIns.c m214_.1)), [(0, .app 97)])), (5, (.v (.sl (List.map cI.i64 m214_.2)), []))], [], []⟩) [.sh (.t 5 0)] [4, 5] [] [] (by kernel_rfl) ?_
      refine Wc.ret ?_
      obtain rfl := Option.some.inj h
      exact ⟨.inl rfl, by kernel_rfl, by kernel_rfl⟩
end Go.Proofs.Ytbfkmgenokhkgaa

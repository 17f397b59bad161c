/- What the functions do. -/
import Derived.Test.YtbpenglnebpbcaaTy
set_option linter.unusedVariables false
set_option linter.unusedSimpArgs false
namespace Go.Proofs.Ytbpenglnebpbcaa
open Go.RowKit Go.Av
def plaws_szTermS_L1 (k : Nat) (rlaws_szTermS : (List GTerm) → Int → Option Int) (rlaws_szTerm : GTerm → Int → Option Int) (a1_ : List GTerm) : Nat → Int → Int → Option (Out Int Int)
  | 0, _, _ => none
  | m + 1, b3_, b4_ =>
    if (decide (b4_ < (a1_.length : Int))) = true then
      (at' a1_ b4_).bind fun c6_ =>
      (rlaws_szTerm c6_ b3_).bind fun b7_ =>
      if (decide (b7_ < 0)) = true then
        some (.ret (-1))
      else
        plaws_szTermS_L1 k rlaws_szTermS rlaws_szTerm a1_ m b7_ (wr.i64 (b4_ + 1))
    else
      some (.done b3_)
mutual
/-- laws.szTermS -/
def plaws_szTermS : Nat → (List GTerm) → Int → Option Int
  | 0, _, _ => none
  | k + 1, a1_, b2_ =>
    if (decide ((wr.i64 (b2_ - (a1_.length : Int))) < 0)) = true then
      some (-1)
    else
      (plaws_szTermS_L1 k (plaws_szTermS k) (plaws_szTerm k) a1_ k (wr.i64 (b2_ - (a1_.length : Int))) 0).bind fun out1 => match out1 with
      | .ret r => some r
      | .done b5_ =>
        some b5_
/-- laws.szTerm -/
def plaws_szTerm : Nat → GTerm → Int → Option Int
  | 0, _, _ => none
  | k + 1, c8_, b9_ =>
    if (decide ((wr.i64 (b9_ - (c8_.gName.size : Int))) < 0)) = true then
      some (-1)
    else
      (plaws_szTermS k c8_.gKids (wr.i64 (b9_ - (c8_.gName.size : Int)))).bind fun b10_ =>
      if (decide (b10_ < 0)) = true then
        some (-1)
      else
        some b10_
end
theorem all_plaws_szTermS : ∀ k : Nat, (∀ {a1_ : List GTerm} {b2_ : Int} {r : Int}, plaws_szTermS k a1_ b2_ = some r → FnC Try.prog 20 [.sl (List.map GTerm.c a1_), .int .i64 b2_] (.int .i64 r) []) ∧
    (∀ {c8_ : GTerm} {b9_ : Int} {r : Int}, plaws_szTerm k c8_ b9_ = some r → FnC Try.prog 21 [.agg [.int .i64 c8_.gKind, .str c8_.gName, .int .i64 c8_.gNum, .sl (List.map GTerm.c c8_.gKids)], .int .i64 b9_] (.int .i64 r) []) := by
  intro k
  induction k with
  | zero =>
    refine ⟨?_, ?_⟩
    · intro a1_ b2_ r h
      exact (onone (by rw [plaws_szTermS] at h; exact h)).elim
    · intro c8_ b9_ r h
      exact (onone (by rw [plaws_szTerm] at h; exact h)).elim
  | succ k ih =>
    obtain ⟨ih_plaws_szTermS, ih_plaws_szTerm⟩ := ih
    refine ⟨?_, ?_⟩
    · intro a1_ b2_ r h
      rw [plaws_szTermS] at h
      refine FnC.of Try.func20 (rfl : Try.f20.body = some _) (Nat.le_of_ble_eq_true (by kernel_rfl)) ?_
      intro w0 X0
      refine Wc.seq ?_
      refine Wc.region [] [0, 1] [] [] ⟨[(0, (.v (.sl (List.map GTerm.c a1_)), [])), (1, (.v (.int .i64 b2_), []))], [], []⟩ _ (by kernel_rfl) .nil ?_
      refine Wc.seq ?_
      refine Wc.region [((none, []), none), ((none, []), none), ((some (.int .i64 (a1_.length : Int)), []), none)] [0, 1] [] [] ⟨[(0, (.v (.sl (List.map GTerm.c a1_)), [])), (1, (.v (.int .i64 (wr.i64 (b2_ - (a1_.length : Int)))), []))], [], []⟩ _ (by kernel_rfl) (.cons (len_obl GTerm.c a1_) .nil) ?_
      refine Wc.seq ?_
      refine Wc.seq ?_
      refine Wc.region [] [0, 1, 11] [] [] ⟨[(0, (.v (.sl (List.map GTerm.c a1_)), [])), (1, (.v (.int .i64 (wr.i64 (b2_ - (a1_.length : Int)))), [])), (11, (.v (.bool (decide ((wr.i64 (b2_ - (a1_.length : Int))) < 0))), []))], [], []⟩ _ (by kernel_rfl) .nil ?_
      rcases oif h with ⟨h1, h⟩ | ⟨h1, h⟩
      · refine Wc.condT h1 (by kernel_rfl) ?_
        refine Wc.seq ?_
        refine Wc.region [] [4] [] [] ⟨[(4, (.v (.int .i64 (-1)), []))], [], []⟩ _ (by kernel_rfl) .nil ?_
        refine Wc.ret ?_
        obtain rfl := Option.some.inj h
        exact ⟨.inl rfl, by kernel_rfl⟩
      · refine Wc.condF h1 (by kernel_rfl) ?_
        refine Wc.keep [0, 1] [] [] ⟨[(0, (.v (.sl (List.map GTerm.c a1_)), [])), (1, (.v (.int .i64 (wr.i64 (b2_ - (a1_.length : Int)))), []))], [], []⟩ (by kernel_rfl) ?_
        refine Wc.skip ?_
        refine Wc.seq ?_
        refine Wc.seq ?_
        refine Wc.region [] [0, 1, 5] [] [] ⟨[(0, (.v (.sl (List.map GTerm.c a1_)), [])), (1, (.v (.int .i64 (wr.i64 (b2_ - (a1_.length : Int)))), [])), (5, (.v (.int .i64 0), []))], [], []⟩ _ (by kernel_rfl) .nil ?_
        obtain ⟨out1, h2, h⟩ := obind h
        refine Wc.lastJ (fun st => ∃ (b5_ : Int), out1 = .done b5_ ∧ st = ⟨[(1, (.v (.int .i64 b5_), []))], [], []⟩) ?_ ?_
        · refine Wc.block ?_
          refine Wc.loop (fun m st => ∃ (b3_ : Int) (b4_ : Int), st = ⟨[(0, (.v (.sl (List.map GTerm.c a1_)), [])), (1, (.v (.int .i64 b3_), [])), (5, (.v (.int .i64 b4_), []))], [], []⟩ ∧ plaws_szTermS_L1 k (plaws_szTermS k) (plaws_szTerm k) a1_ m b3_ b4_ = some out1) ?_ k ⟨_, _, rfl, h2⟩
          rintro m st ⟨b3_, b4_, rfl, h2⟩
          cases m with
          | zero => exact (onone h2).elim
          | succ m =>
            refine Wc.seq ?_
            refine Wc.seq ?_
            refine Wc.region [((none, []), none), ((none, []), none), ((some (.int .i64 (a1_.length : Int)), []), none)] [0, 1, 5, 15] [] [] ⟨[(0, (.v (.sl (List.map GTerm.c a1_)), [])), (1, (.v (.int .i64 b3_), [])), (5, (.v (.int .i64 b4_), [])), (15, (.v (.bool (decide (b4_ < (a1_.length : Int)))), []))], [], []⟩ _ (by kernel_rfl) (.cons (len_obl GTerm.c a1_) .nil) ?_
            rcases oif h2 with ⟨h3, h2⟩ | ⟨h3, h2⟩
            · refine Wc.condT h3 (by kernel_rfl) ?_
              refine Wc.keep [0, 1, 5] [] [] ⟨[(0, (.v (.sl (List.map GTerm.c a1_)), [])), (1, (.v (.int .i64 b3_), [])), (5, (.v (.int .i64 b4_), []))], [], []⟩ (by kernel_rfl) ?_
              refine Wc.skip ?_
              refine Wc.seq ?_
              refine Wc.block ?_
              refine Wc.seq ?_
              obtain ⟨c6_, h4, h2⟩ := obind h2
              obtain ⟨b7_, h5, h2⟩ := obind h2
              refine Wc.region [((none, []), none), ((none, []), none), ((some (.vptr [.int .i64 c6_.gKind, .str c6_.gName, .int .i64 c6_.gNum, .sl (List.map GTerm.c c6_.gKids)]), []), none), ((none, []), none), ((none, []), none), ((some (.int .i64 b7_), []), none)] [0, 1, 5] [] [] ⟨[(0, (.v (.sl (List.map GTerm.c a1_)), [])), (1, (.v (.int .i64 b7_), [])), (5, (.v (.int .i64 b4_), []))], [], []⟩ _ (by kernel_rfl) (.cons (at_obl (c := GTerm.c) (GTerm.c_eq c6_) GTerm.c_len h4) (.cons (len_ok 4 [.int .i64 c6_.gKind, .str c6_.gName, .int .i64 c6_.gNum, .sl (List.map GTerm.c c6_.gKids)]) (.cons (ih_plaws_szTerm h5) .nil))) ?_
              refine Wc.seq ?_
              refine Wc.region [] [0, 1, 5, 25] [] [] ⟨[(0, (.v (.sl (List.map GTerm.c a1_)), [])), (1, (.v (.int .i64 b7_), [])), (5, (.v (.int .i64 b4_), [])), (25, (.v (.bool (decide (b7_ < 0))), []))], [], []⟩ _ (by kernel_rfl) .nil ?_
              rcases oif h2 with ⟨h6, h2⟩ | ⟨h6, h2⟩
              · refine Wc.condT h6 (by kernel_rfl) ?_
                refine Wc.seq ?_
                refine Wc.region [] [4] [] [] ⟨[(4, (.v (.int .i64 (-1)), []))], [], []⟩ _ (by kernel_rfl) .nil ?_
                refine Wc.ret ?_
                obtain rfl := Option.some.inj h2
                obtain rfl := Option.some.inj h
                exact ⟨.inl rfl, by kernel_rfl⟩
              · refine Wc.condF h6 (by kernel_rfl) ?_
                refine Wc.keep [0, 1, 5] [] [] ⟨[(0, (.v (.sl (List.map GTerm.c a1_)), [])), (1, (.v (.int .i64 b7_), [])), (5, (.v (.int .i64 b4_), []))], [], []⟩ (by kernel_rfl) ?_
                refine Wc.skip ?_
                refine Wc.region [] [0, 1, 5] [] [] ⟨[(0, (.v (.sl (List.map GTerm.c a1_)), [])), (1, (.v (.int .i64 b7_), [])), (5, (.v (.int .i64 (wr.i64 (b4_ + 1))), []))], [], []⟩ _ (by kernel_rfl) .nil ?_
                exact ⟨_, Nat.lt_succ_self _, _, _, rfl, h2⟩
            · refine Wc.condF h3 (by kernel_rfl) ?_
              refine Wc.keep [1] [] [] ⟨[(1, (.v (.int .i64 b3_), []))], [], []⟩ (by kernel_rfl) ?_
              refine Wc.exit ?_
              obtain rfl := Option.some.inj h2
              exact ⟨_, rfl, rfl⟩
        · rintro st ⟨b5_, rfl, rfl⟩
          refine Wc.seq ?_
          refine Wc.region [] [4] [] [] ⟨[(4, (.v (.int .i64 b5_), []))], [], []⟩ _ (by kernel_rfl) .nil ?_
          refine Wc.ret ?_
          obtain rfl := Option.some.inj h
          exact ⟨.inl rfl, by kernel_rfl⟩
    · intro c8_ b9_ r h
      rw [plaws_szTerm] at h
      refine FnC.of Try.func21 (rfl : Try.f21.body = some _) (Nat.le_of_ble_eq_true (by kernel_rfl)) ?_
      intro w0 X0
      refine Wc.seq ?_
      refine Wc.region [] [1, 2] [2] [] ⟨[(1, (.v (.int .i64 b9_), [])), (2, (.ptr 2 0, []))], [(2, ([.int .i64 c8_.gKind, .str c8_.gName, .int .i64 c8_.gNum, .sl (List.map GTerm.c c8_.gKids)], []))], []⟩ _ (by kernel_rfl) .nil ?_
      refine Wc.seq ?_
      refine Wc.region [] [1, 2] [2] [] ⟨[(1, (.v (.int .i64 (wr.i64 (b9_ - (c8_.gName.size : Int)))), [])), (2, (.ptr 2 0, []))], [(2, ([.int .i64 c8_.gKind, .str c8_.gName, .int .i64 c8_.gNum, .sl (List.map GTerm.c c8_.gKids)], []))], []⟩ _ (by kernel_rfl) .nil ?_
      refine Wc.seq ?_
      refine Wc.seq ?_
      refine Wc.region [] [1, 2, 11] [2] [] ⟨[(1, (.v (.int .i64 (wr.i64 (b9_ - (c8_.gName.size : Int)))), [])), (2, (.ptr 2 0, [])), (11, (.v (.bool (decide ((wr.i64 (b9_ - (c8_.gName.size : Int))) < 0))), []))], [(2, ([.int .i64 c8_.gKind, .str c8_.gName, .int .i64 c8_.gNum, .sl (List.map GTerm.c c8_.gKids)], []))], []⟩ _ (by kernel_rfl) .nil ?_
      rcases oif h with ⟨h7, h⟩ | ⟨h7, h⟩
      · refine Wc.condT h7 (by kernel_rfl) ?_
        refine Wc.seq ?_
        refine Wc.region [] [4] [] [] ⟨[(4, (.v (.int .i64 (-1)), []))], [], []⟩ _ (by kernel_rfl) .nil ?_
        refine Wc.ret ?_
        obtain rfl := Option.some.inj h
        exact ⟨.inl rfl, by kernel_rfl⟩
      · refine Wc.condF h7 (by kernel_rfl) ?_
        refine Wc.keep [1, 2] [2] [] ⟨[(1, (.v (.int .i64 (wr.i64 (b9_ - (c8_.gName.size : Int)))), [])), (2, (.ptr 2 0, []))], [(2, ([.int .i64 c8_.gKind, .str c8_.gName, .int .i64 c8_.gNum, .sl (List.map GTerm.c c8_.gKids)], []))], []⟩ (by kernel_rfl) ?_
        refine Wc.skip ?_
        refine Wc.seq ?_
        obtain ⟨b10_, h8, h⟩ := obind h
        refine Wc.region [((none, []), none), ((none, []), none), ((none, []), none), ((some (.int .i64 b10_), []), none)] [1] [] [] ⟨[(1, (.v (.int .i64 b10_), []))], [], []⟩ _ (by kernel_rfl) (.cons (ih_plaws_szTermS h8) .nil) ?_
        refine Wc.seq ?_
        refine Wc.seq ?_
        refine Wc.region [] [1, 17] [] [] ⟨[(1, (.v (.int .i64 b10_), [])), (17, (.v (.bool (decide (b10_ < 0))), []))], [], []⟩ _ (by kernel_rfl) .nil ?_
        rcases oif h with ⟨h9, h⟩ | ⟨h9, h⟩
        · refine Wc.condT h9 (by kernel_rfl) ?_
          refine Wc.seq ?_
          refine Wc.region [] [4] [] [] ⟨[(4, (.v (.int .i64 (-1)), []))], [], []⟩ _ (by kernel_rfl) .nil ?_
          refine Wc.ret ?_
          obtain rfl := Option.some.inj h
          exact ⟨.inl rfl, by kernel_rfl⟩
        · refine Wc.condF h9 (by kernel_rfl) ?_
          refine Wc.keep [1] [] [] ⟨[(1, (.v (.int .i64 b10_), []))], [], []⟩ (by kernel_rfl) ?_
          refine Wc.skip ?_
          refine Wc.seq ?_
          refine Wc.region [] [4] [] [] ⟨[(4, (.v (.int .i64 b10_), []))], [], []⟩ _ (by kernel_rfl) .nil ?_
          refine Wc.ret ?_
          obtain rfl := Option.some.inj h
          exact ⟨.inl rfl, by kernel_rfl⟩
theorem claws_szTermS {k : Nat} {a1_ : List GTerm} {b2_ : Int} {r : Int} (h : plaws_szTermS k a1_ b2_ = some r) : FnC Try.prog 20 [.sl (List.map GTerm.c a1_), .int .i64 b2_] (.int .i64 r) [] := (all_plaws_szTermS k).1 h
theorem claws_szTerm {k : Nat} {c8_ : GTerm} {b9_ : Int} {r : Int} (h : plaws_szTerm k c8_ b9_ = some r) : FnC Try.prog 21 [.agg [.int .i64 c8_.gKind, .str c8_.gName, .int .i64 c8_.gNum, .sl (List.map GTerm.c c8_.gKids)], .int .i64 b9_] (.int .i64 r) [] := (all_plaws_szTermS k).2 h

def plaws_toTermS_L1 (k : Nat) (rlaws_toTermS : (List GTerm) → Option (List GTerm)) (rlaws_toTerm : GTerm → Option GTerm) (a11_ : List GTerm) : Nat → Int → (List GTerm) → Option (Out (List GTerm) (List GTerm))
  | 0, _, _ => none
  | m + 1, b12_, a13_ =>
    if (decide (b12_ < (a11_.length : Int))) = true then
      (at' a11_ b12_).bind fun c15_ =>
      (rlaws_toTerm c15_).bind fun c16_ =>
      if 0 ≤ b12_ ∧ (b12_).toNat < a13_.length then
        plaws_toTermS_L1 k rlaws_toTermS rlaws_toTerm a11_ m (wr.i64 (b12_ + 1)) (a13_.set ((b12_).toNat) c16_)
      else none
    else
      some (.done a13_)
mutual
/-- laws.toTermS -/
def plaws_toTermS : Nat → (List GTerm) → Option (List GTerm)
  | 0, _ => none
  | k + 1, a11_ =>
    if 0 ≤ (a11_.length : Int) ∧ (a11_.length : Int) ≤ 1073741824 then
      (plaws_toTermS_L1 k (plaws_toTermS k) (plaws_toTerm k) a11_ k 0 (List.replicate ((a11_.length : Int)).toNat (GTerm.mk 0 (bs []) 0 []))).bind fun out1 => match out1 with
      | .ret r => some r
      | .done a14_ =>
        some a14_
    else none
/-- laws.toTerm -/
def plaws_toTerm : Nat → GTerm → Option GTerm
  | 0, _ => none
  | k + 1, c17_ =>
    (plaws_toTermS k c17_.gKids).bind fun a18_ =>
    some (GTerm.mk c17_.gKind c17_.gName c17_.gNum a18_)
end
theorem all_plaws_toTermS : ∀ k : Nat, (∀ {a11_ : List GTerm} {r : List GTerm}, plaws_toTermS k a11_ = some r → FnC Try.prog 23 [.sl (List.map GTerm.c a11_)] (.sl (List.map GTerm.c r)) []) ∧
    (∀ {c17_ : GTerm} {r : GTerm}, plaws_toTerm k c17_ = some r → FnC Try.prog 24 [.agg [.int .i64 c17_.gKind, .str c17_.gName, .int .i64 c17_.gNum, .sl (List.map GTerm.c c17_.gKids)]] (.agg [.int .i64 r.gKind, .str r.gName, .int .i64 r.gNum, .sl (List.map GTerm.c r.gKids)]) []) := by
  intro k
  induction k with
  | zero =>
    refine ⟨?_, ?_⟩
    · intro a11_ r h
      exact (onone (by rw [plaws_toTermS] at h; exact h)).elim
    · intro c17_ r h
      exact (onone (by rw [plaws_toTerm] at h; exact h)).elim
  | succ k ih =>
    obtain ⟨ih_plaws_toTermS, ih_plaws_toTerm⟩ := ih
    refine ⟨?_, ?_⟩
    · intro a11_ r h
      rw [plaws_toTermS] at h
      refine FnC.of Try.func23 (rfl : Try.f23.body = some _) (Nat.le_of_ble_eq_true (by kernel_rfl)) ?_
      intro w0 X0
      refine Wc.seq ?_
      refine Wc.region [((none, []), some (.sl (List.map GTerm.c [])))] [0] [] [] ⟨[(0, (.v (.sl (List.map GTerm.c a11_)), []))], [], []⟩ _ (by kernel_rfl) (.cons (nil_re GTerm.c) .nil) ?_
      refine Wc.seq ?_
      obtain ⟨h10, h⟩ := oguard h
      refine Wc.region [((none, []), none), ((some (.int .i64 (a11_.length : Int)), []), none)] [0, 3] [] [7] ⟨[(0, (.v (.sl (List.map GTerm.c a11_)), [])), (3, (.arr 7, []))], [], [(7, (4, List.replicate ((a11_.length : Int)).toNat [.int .i64 0, .str (bs []), .int .i64 0, .sl (List.map GTerm.c [])]))]⟩ _ (by kernel_rfl) (.cons (len_obl GTerm.c a11_) (.cons (ms_obl h10) .nil)) ?_
      refine Wc.re (congrArg (St.mk _ _) ((rc_re (rep_re (c := GTerm.c) (GTerm.c_eq (GTerm.mk 0 (bs []) 0 [])) _) rfl) : _ = [(7, (4, List.map GTerm.c (List.replicate ((a11_.length : Int)).toNat (GTerm.mk 0 (bs []) 0 []))))])) ?_
      refine Wc.seq ?_
      refine Wc.seq ?_
      refine Wc.region [] [0, 3, 4] [] [7] ⟨[(0, (.v (.sl (List.map GTerm.c a11_)), [])), (3, (.arr 7, [])), (4, (.v (.int .i64 0), []))], [], [(7, (4, List.map GTerm.c (List.replicate ((a11_.length : Int)).toNat (GTerm.mk 0 (bs []) 0 []))))]⟩ _ (by kernel_rfl) .nil ?_
      obtain ⟨out1, h11, h⟩ := obind h
      refine Wc.lastJ (fun st => ∃ (a14_ : List GTerm), out1 = .done a14_ ∧ st = ⟨[(3, (.arr 7, []))], [], [(7, (4, List.map GTerm.c a14_))]⟩) ?_ ?_
      · refine Wc.block ?_
        refine Wc.loop (fun m st => ∃ (b12_ : Int) (a13_ : List GTerm), st = ⟨[(0, (.v (.sl (List.map GTerm.c a11_)), [])), (3, (.arr 7, [])), (4, (.v (.int .i64 b12_), []))], [], [(7, (4, List.map GTerm.c a13_))]⟩ ∧ plaws_toTermS_L1 k (plaws_toTermS k) (plaws_toTerm k) a11_ m b12_ a13_ = some out1) ?_ k ⟨_, _, rfl, h11⟩
        rintro m st ⟨b12_, a13_, rfl, h11⟩
        cases m with
        | zero => exact (onone h11).elim
        | succ m =>
          refine Wc.seq ?_
          refine Wc.seq ?_
          refine Wc.region [((none, []), none), ((none, []), none), ((some (.int .i64 (a11_.length : Int)), []), none)] [0, 3, 4, 11] [] [7] ⟨[(0, (.v (.sl (List.map GTerm.c a11_)), [])), (3, (.arr 7, [])), (4, (.v (.int .i64 b12_), [])), (11, (.v (.bool (decide (b12_ < (a11_.length : Int)))), []))], [], [(7, (4, List.map GTerm.c a13_))]⟩ _ (by kernel_rfl) (.cons (len_obl GTerm.c a11_) .nil) ?_
          rcases oif h11 with ⟨h12, h11⟩ | ⟨h12, h11⟩
          · refine Wc.condT h12 (by kernel_rfl) ?_
            refine Wc.keep [0, 3, 4] [] [7] ⟨[(0, (.v (.sl (List.map GTerm.c a11_)), [])), (3, (.arr 7, [])), (4, (.v (.int .i64 b12_), []))], [], [(7, (4, List.map GTerm.c a13_))]⟩ (by kernel_rfl) ?_
            refine Wc.skip ?_
            refine Wc.seq ?_
            refine Wc.block ?_
            obtain ⟨c15_, h13, h11⟩ := obind h11
            obtain ⟨c16_, h14, h11⟩ := obind h11
            obtain ⟨h15, h11⟩ := oguard h11
            refine Wc.region [((none, []), none), ((none, []), none), ((none, []), none), ((none, []), none), ((some (.vptr [.int .i64 c15_.gKind, .str c15_.gName, .int .i64 c15_.gNum, .sl (List.map GTerm.c c15_.gKids)]), []), none), ((none, []), none), ((some (.agg [.int .i64 c16_.gKind, .str c16_.gName, .int .i64 c16_.gNum, .sl (List.map GTerm.c c16_.gKids)]), []), none)] [0, 3, 4] [] [7] ⟨[(0, (.v (.sl (List.map GTerm.c a11_)), [])), (3, (.arr 7, [])), (4, (.v (.int .i64 b12_), []))], [], [(7, (4, (List.map GTerm.c a13_).modify ((b12_).toNat) (fun c => setAll c 0 [.int .i64 c16_.gKind, .str c16_.gName, .int .i64 c16_.gNum, .sl (List.map GTerm.c c16_.gKids)])))]⟩ _ (by kernel_rfl) (.cons (at_obl (c := GTerm.c) (GTerm.c_eq c15_) GTerm.c_len h13) (.cons (len_ok 4 [.int .i64 c15_.gKind, .str c15_.gName, .int .i64 c15_.gNum, .sl (List.map GTerm.c c15_.gKids)]) (.cons (ih_plaws_toTerm h14) (.cons (arr_obl (c := GTerm.c) h15) (.cons (arr_obl (c := GTerm.c) h15).2 .nil))))) ?_
            refine Wc.re (congrArg (St.mk _ _) ((rc_re (mod_re (c := GTerm.c) (GTerm.c_eq c16_) GTerm.c_len _ _) rfl) : _ = [(7, (4, List.map GTerm.c (a13_.set ((b12_).toNat) c16_)))])) ?_
            refine Wc.region [] [0, 3, 4] [] [7] ⟨[(0, (.v (.sl (List.map GTerm.c a11_)), [])), (3, (.arr 7, [])), (4, (.v (.int .i64 (wr.i64 (b12_ + 1))), []))], [], [(7, (4, List.map GTerm.c (a13_.set ((b12_).toNat) c16_)))]⟩ _ (by kernel_rfl) .nil ?_
            exact ⟨_, Nat.lt_succ_self _, _, _, rfl, h11⟩
          · refine Wc.condF h12 (by kernel_rfl) ?_
            refine Wc.keep [3] [] [7] ⟨[(3, (.arr 7, []))], [], [(7, (4, List.map GTerm.c a13_))]⟩ (by kernel_rfl) ?_
            refine Wc.exit ?_
            obtain rfl := Option.some.inj h11
            exact ⟨_, rfl, rfl⟩
      · rintro st ⟨a14_, rfl, rfl⟩
        refine Wc.seq ?_
        refine Wc.region [] [2] [] [7] ⟨[(2, (.arr 7, []))], [], [(7, (4, List.map GTerm.c a14_))]⟩ _ (by kernel_rfl) .nil ?_
        refine Wc.ret ?_
        obtain rfl := Option.some.inj h
        exact ⟨.inl rfl, by kernel_rfl⟩
    · intro c17_ r h
      rw [plaws_toTerm] at h
      refine FnC.of Try.func24 (rfl : Try.f24.body = some _) (Nat.le_of_ble_eq_true (by kernel_rfl)) ?_
      intro w0 X0
      refine Wc.seq ?_
      refine Wc.region [] [1, 2] [1, 2] [] ⟨[(1, (.ptr 1 0, [])), (2, (.ptr 2 0, []))], [(1, ([.int .i64 c17_.gKind, .str c17_.gName, .int .i64 c17_.gNum, .sl (List.map GTerm.c c17_.gKids)], [])), (2, ([.int .i64 0, .str (bs []), .int .i64 0, .sl (List.map GTerm.c [])], [(3, 48)]))], []⟩ _ (by kernel_rfl) .nil ?_
      refine Wc.seq ?_
      refine Wc.region [] [1, 2, 3] [1, 2, 3] [] ⟨[(1, (.ptr 1 0, [])), (2, (.ptr 2 0, [])), (3, (.ptr 3 0, []))], [(1, ([.int .i64 c17_.gKind, .str c17_.gName, .int .i64 c17_.gNum, .sl (List.map GTerm.c c17_.gKids)], [])), (2, ([.int .i64 0, .str (bs []), .int .i64 0, .sl (List.map GTerm.c [])], [(3, 48)])), (3, ([.int .i64 0, .str (bs []), .int .i64 0, .sl (List.map GTerm.c [])], [(3, 48)]))], []⟩ _ (by kernel_rfl) .nil ?_
      refine Wc.seq ?_
      refine Wc.region [] [1, 2, 3] [1, 2, 3] [] ⟨[(1, (.ptr 1 0, [])), (2, (.ptr 2 0, [])), (3, (.ptr 3 0, []))], [(1, ([.int .i64 c17_.gKind, .str c17_.gName, .int .i64 c17_.gNum, .sl (List.map GTerm.c c17_.gKids)], [])), (2, ([.int .i64 0, .str (bs []), .int .i64 0, .sl (List.map GTerm.c [])], [(3, 48)])), (3, ([.int .i64 c17_.gKind, .str (bs []), .int .i64 0, .sl (List.map GTerm.c [])], [(3, 48)]))], []⟩ _ (by kernel_rfl) .nil ?_
      refine Wc.seq ?_
      refine Wc.region [] [1, 2, 3] [1, 2, 3] [] ⟨[(1, (.ptr 1 0, [])), (2, (.ptr 2 0, [])), (3, (.ptr 3 0, []))], [(1, ([.int .i64 c17_.gKind, .str c17_.gName, .int .i64 c17_.gNum, .sl (List.map GTerm.c c17_.gKids)], [])), (2, ([.int .i64 0, .str (bs []), .int .i64 0, .sl (List.map GTerm.c [])], [(3, 48)])), (3, ([.int .i64 c17_.gKind, .str c17_.gName, .int .i64 0, .sl (List.map GTerm.c [])], [(3, 48)]))], []⟩ _ (by kernel_rfl) .nil ?_
      refine Wc.seq ?_
      refine Wc.region [] [1, 2, 3] [1, 2, 3] [] ⟨[(1, (.ptr 1 0, [])), (2, (.ptr 2 0, [])), (3, (.ptr 3 0, []))], [(1, ([.int .i64 c17_.gKind, .str c17_.gName, .int .i64 c17_.gNum, .sl (List.map GTerm.c c17_.gKids)], [])), (2, ([.int .i64 0, .str (bs []), .int .i64 0, .sl (List.map GTerm.c [])], [(3, 48)])), (3, ([.int .i64 c17_.gKind, .str c17_.gName, .int .i64 c17_.gNum, .sl (List.map GTerm.c [])], [(3, 48)]))], []⟩ _ (by kernel_rfl) .nil ?_
      refine Wc.seq ?_
      obtain ⟨a18_, h16, h⟩ := obind h
      refine Wc.region [((none, []), none), ((none, []), none), ((some (.sl (List.map GTerm.c a18_)), []), none)] [2, 3] [2, 3] [] ⟨[(2, (.ptr 2 0, [])), (3, (.ptr 3 0, []))], [(2, ([.int .i64 0, .str (bs []), .int .i64 0, .sl (List.map GTerm.c [])], [(3, 48)])), (3, ([.int .i64 c17_.gKind, .str c17_.gName, .int .i64 c17_.gNum, .sl (List.map GTerm.c a18_)], []))], []⟩ _ (by kernel_rfl) (.cons (ih_plaws_toTermS h16) .nil) ?_
      refine Wc.seq ?_
      refine Wc.region [] [2] [2] [] ⟨[(2, (.ptr 2 0, []))], [(2, ([.int .i64 c17_.gKind, .str c17_.gName, .int .i64 c17_.gNum, .sl (List.map GTerm.c a18_)], []))], []⟩ _ (by kernel_rfl) .nil ?_
      refine Wc.ret ?_
      obtain rfl := Option.some.inj h
      exact ⟨.inl rfl, by kernel_rfl⟩
theorem claws_toTermS {k : Nat} {a11_ : List GTerm} {r : List GTerm} (h : plaws_toTermS k a11_ = some r) : FnC Try.prog 23 [.sl (List.map GTerm.c a11_)] (.sl (List.map GTerm.c r)) [] := (all_plaws_toTermS k).1 h
theorem claws_toTerm {k : Nat} {c17_ : GTerm} {r : GTerm} (h : plaws_toTerm k c17_ = some r) : FnC Try.prog 24 [.agg [.int .i64 c17_.gKind, .str c17_.gName, .int .i64 c17_.gNum, .sl (List.map GTerm.c c17_.gKids)]] (.agg [.int .i64 r.gKind, .str r.gName, .int .i64 r.gNum, .sl (List.map GTerm.c r.gKids)]) [] := (all_plaws_toTermS k).2 h

def plaws_eqTermS_L1 (k : Nat) (rlaws_eqTermS : (List GTerm) → (List GTerm) → Option Bool) (rlaws_eqTerm : GTerm → GTerm → Option Bool) (a19_ : List GTerm) (a20_ : List GTerm) : Nat → Int → Option (Out Bool Unit)
  | 0, _ => none
  | m + 1, b21_ =>
    if (decide (b21_ < (a19_.length : Int))) = true then
      (at' a19_ b21_).bind fun c22_ =>
      (at' a20_ b21_).bind fun c23_ =>
      (rlaws_eqTerm c22_ c23_).bind fun d24_ =>
      if (!d24_) = true then
        some (.ret false)
      else
        plaws_eqTermS_L1 k rlaws_eqTermS rlaws_eqTerm a19_ a20_ m (wr.i64 (b21_ + 1))
    else
      some (.done ())
mutual
/-- laws.eqTermS -/
def plaws_eqTermS : Nat → (List GTerm) → (List GTerm) → Option Bool
  | 0, _, _ => none
  | k + 1, a19_, a20_ =>
    if ((a19_.length : Int) != (a20_.length : Int)) = true then
      some false
    else
      (plaws_eqTermS_L1 k (plaws_eqTermS k) (plaws_eqTerm k) a19_ a20_ k 0).bind fun out1 => match out1 with
      | .ret r => some r
      | .done () =>
        some true
/-- laws.eqTerm -/
def plaws_eqTerm : Nat → GTerm → GTerm → Option Bool
  | 0, _, _ => none
  | k + 1, c25_, c26_ =>
    if (c25_.gKind != c26_.gKind) = true then
      some false
    else
      if (!(sEq c25_.gName c26_.gName)) = true then
        some false
      else
        if (c25_.gNum != c26_.gNum) = true then
          some false
        else
          (plaws_eqTermS k c25_.gKids c26_.gKids).bind fun d27_ =>
          if (!d27_) = true then
            some false
          else
            some true
end
theorem all_plaws_eqTermS : ∀ k : Nat, (∀ {a19_ : List GTerm} {a20_ : List GTerm} {r : Bool}, plaws_eqTermS k a19_ a20_ = some r → FnC Try.prog 26 [.sl (List.map GTerm.c a19_), .sl (List.map GTerm.c a20_)] (.bool r) []) ∧
    (∀ {c25_ : GTerm} {c26_ : GTerm} {r : Bool}, plaws_eqTerm k c25_ c26_ = some r → FnC Try.prog 27 [.agg [.int .i64 c25_.gKind, .str c25_.gName, .int .i64 c25_.gNum, .sl (List.map GTerm.c c25_.gKids)], .agg [.int .i64 c26_.gKind, .str c26_.gName, .int .i64 c26_.gNum, .sl (List.map GTerm.c c26_.gKids)]] (.bool r) []) := by
  intro k
  induction k with
  | zero =>
    refine ⟨?_, ?_⟩
    · intro a19_ a20_ r h
      exact (onone (by rw [plaws_eqTermS] at h; exact h)).elim
    · intro c25_ c26_ r h
      exact (onone (by rw [plaws_eqTerm] at h; exact h)).elim
  | succ k ih =>
    obtain ⟨ih_plaws_eqTermS, ih_plaws_eqTerm⟩ := ih
    refine ⟨?_, ?_⟩
    · intro a19_ a20_ r h
      rw [plaws_eqTermS] at h
      refine FnC.of Try.func26 (rfl : Try.f26.body = some _) (Nat.le_of_ble_eq_true (by kernel_rfl)) ?_
      intro w0 X0
      refine Wc.seq ?_
      refine Wc.region [] [0, 1] [] [] ⟨[(0, (.v (.sl (List.map GTerm.c a19_)), [])), (1, (.v (.sl (List.map GTerm.c a20_)), []))], [], []⟩ _ (by kernel_rfl) .nil ?_
      refine Wc.seq ?_
      refine Wc.seq ?_
      refine Wc.region [((none, []), none), ((some (.int .i64 (a19_.length : Int)), []), none), ((none, []), none), ((some (.int .i64 (a20_.length : Int)), []), none)] [0, 1, 10] [] [] ⟨[(0, (.v (.sl (List.map GTerm.c a19_)), [])), (1, (.v (.sl (List.map GTerm.c a20_)), [])), (10, (.v (.bool ((a19_.length : Int) != (a20_.length : Int))), []))], [], []⟩ _ (by kernel_rfl) (.cons (len_obl GTerm.c a19_) (.cons (len_obl GTerm.c a20_) .nil)) ?_
      rcases oif h with ⟨h17, h⟩ | ⟨h17, h⟩
      · refine Wc.condT h17 (by kernel_rfl) ?_
        refine Wc.seq ?_
        refine Wc.region [] [4] [] [] ⟨[(4, (.v (.bool false), []))], [], []⟩ _ (by kernel_rfl) .nil ?_
        refine Wc.ret ?_
        obtain rfl := Option.some.inj h
        exact ⟨.inl rfl, by kernel_rfl⟩
      · refine Wc.condF h17 (by kernel_rfl) ?_
        refine Wc.keep [0, 1] [] [] ⟨[(0, (.v (.sl (List.map GTerm.c a19_)), [])), (1, (.v (.sl (List.map GTerm.c a20_)), []))], [], []⟩ (by kernel_rfl) ?_
        refine Wc.skip ?_
        refine Wc.seq ?_
        refine Wc.seq ?_
        refine Wc.region [] [0, 1, 5] [] [] ⟨[(0, (.v (.sl (List.map GTerm.c a19_)), [])), (1, (.v (.sl (List.map GTerm.c a20_)), [])), (5, (.v (.int .i64 0), []))], [], []⟩ _ (by kernel_rfl) .nil ?_
        obtain ⟨out1, h18, h⟩ := obind h
        refine Wc.lastJ (fun st => out1 = .done () ∧ st = ⟨[], [], []⟩) ?_ ?_
        · refine Wc.block ?_
          refine Wc.loop (fun m st => ∃ (b21_ : Int), st = ⟨[(0, (.v (.sl (List.map GTerm.c a19_)), [])), (1, (.v (.sl (List.map GTerm.c a20_)), [])), (5, (.v (.int .i64 b21_), []))], [], []⟩ ∧ plaws_eqTermS_L1 k (plaws_eqTermS k) (plaws_eqTerm k) a19_ a20_ m b21_ = some out1) ?_ k ⟨_, rfl, h18⟩
          rintro m st ⟨b21_, rfl, h18⟩
          cases m with
          | zero => exact (onone h18).elim
          | succ m =>
            refine Wc.seq ?_
            refine Wc.seq ?_
            refine Wc.region [((none, []), none), ((none, []), none), ((some (.int .i64 (a19_.length : Int)), []), none)] [0, 1, 5, 14] [] [] ⟨[(0, (.v (.sl (List.map GTerm.c a19_)), [])), (1, (.v (.sl (List.map GTerm.c a20_)), [])), (5, (.v (.int .i64 b21_), [])), (14, (.v (.bool (decide (b21_ < (a19_.length : Int)))), []))], [], []⟩ _ (by kernel_rfl) (.cons (len_obl GTerm.c a19_) .nil) ?_
            rcases oif h18 with ⟨h19, h18⟩ | ⟨h19, h18⟩
            · refine Wc.condT h19 (by kernel_rfl) ?_
              refine Wc.keep [0, 1, 5] [] [] ⟨[(0, (.v (.sl (List.map GTerm.c a19_)), [])), (1, (.v (.sl (List.map GTerm.c a20_)), [])), (5, (.v (.int .i64 b21_), []))], [], []⟩ (by kernel_rfl) ?_
              refine Wc.skip ?_
              refine Wc.seq ?_
              refine Wc.block ?_
              refine Wc.seq ?_
              obtain ⟨c22_, h20, h18⟩ := obind h18
              obtain ⟨c23_, h21, h18⟩ := obind h18
              obtain ⟨d24_, h22, h18⟩ := obind h18
              refine Wc.draw hmix [((none, []), none), ((none, []), none), ((some (.vptr [.int .i64 c22_.gKind, .str c22_.gName, .int .i64 c22_.gNum, .sl (List.map GTerm.c c22_.gKids)]), []), none), ((none, []), none), ((none, []), none), ((none, []), none), ((some (.vptr [.int .i64 c23_.gKind, .str c23_.gName, .int .i64 c23_.gNum, .sl (List.map GTerm.c c23_.gKids)]), []), none), ((none, []), none), ((some (.bool d24_), []), none)] [0, 1, 5, 26] [] [] ⟨[(0, (.v (.sl (List.map GTerm.c a19_)), [])), (1, (.v (.sl (List.map GTerm.c a20_)), [])), (5, (.v (.int .i64 b21_), [])), (26, (.v (.bool (!d24_)), []))], [], []⟩ _ (by kernel_rfl) (.cons (at_obl (c := GTerm.c) (GTerm.c_eq c22_) GTerm.c_len h20) (.cons (len_ok 4 [.int .i64 c22_.gKind, .str c22_.gName, .int .i64 c22_.gNum, .sl (List.map GTerm.c c22_.gKids)]) (.cons (at_obl (c := GTerm.c) (GTerm.c_eq c23_) GTerm.c_len h21) (.cons (len_ok 4 [.int .i64 c23_.gKind, .str c23_.gName, .int .i64 c23_.gNum, .sl (List.map GTerm.c c23_.gKids)]) (.cons (ih_plaws_eqTerm h22) .nil))))) ?_
              rcases oif h18 with ⟨h23, h18⟩ | ⟨h23, h18⟩
              · refine Wc.condT h23 (by kernel_rfl) ?_
                refine Wc.seq ?_
                refine Wc.region [] [4] [] [] ⟨[(4, (.v (.bool false), []))], [], []⟩ _ (by kernel_rfl) .nil ?_
                refine Wc.ret ?_
                obtain rfl := Option.some.inj h18
                obtain rfl := Option.some.inj h
                exact ⟨.inl rfl, by kernel_rfl⟩
              · refine Wc.condF h23 (by kernel_rfl) ?_
                refine Wc.keep [0, 1, 5] [] [] ⟨[(0, (.v (.sl (List.map GTerm.c a19_)), [])), (1, (.v (.sl (List.map GTerm.c a20_)), [])), (5, (.v (.int .i64 b21_), []))], [], []⟩ (by kernel_rfl) ?_
                refine Wc.skip ?_
                refine Wc.region [] [0, 1, 5] [] [] ⟨[(0, (.v (.sl (List.map GTerm.c a19_)), [])), (1, (.v (.sl (List.map GTerm.c a20_)), [])), (5, (.v (.int .i64 (wr.i64 (b21_ + 1))), []))], [], []⟩ _ (by kernel_rfl) .nil ?_
                exact ⟨_, Nat.lt_succ_self _, _, rfl, h18⟩
            · refine Wc.condF h19 (by kernel_rfl) ?_
              refine Wc.keep [] [] [] ⟨[], [], []⟩ (by kernel_rfl) ?_
              refine Wc.exit ?_
              obtain rfl := Option.some.inj h18
              exact ⟨rfl, rfl⟩
        · rintro st ⟨rfl, rfl⟩
          refine Wc.seq ?_
          refine Wc.region [] [4] [] [] ⟨[(4, (.v (.bool true), []))], [], []⟩ _ (by kernel_rfl) .nil ?_
          refine Wc.ret ?_
          obtain rfl := Option.some.inj h
          exact ⟨.inl rfl, by kernel_rfl⟩
    · intro c25_ c26_ r h
      rw [plaws_eqTerm] at h
      refine FnC.of Try.func27 (rfl : Try.f27.body = some _) (Nat.le_of_ble_eq_true (by kernel_rfl)) ?_
      intro w0 X0
      refine Wc.seq ?_
      refine Wc.region [] [2, 3] [2, 3] [] ⟨[(2, (.ptr 2 0, [])), (3, (.ptr 3 0, []))], [(2, ([.int .i64 c25_.gKind, .str c25_.gName, .int .i64 c25_.gNum, .sl (List.map GTerm.c c25_.gKids)], [])), (3, ([.int .i64 c26_.gKind, .str c26_.gName, .int .i64 c26_.gNum, .sl (List.map GTerm.c c26_.gKids)], []))], []⟩ _ (by kernel_rfl) .nil ?_
      refine Wc.seq ?_
      refine Wc.seq ?_
      refine Wc.region [] [2, 3, 9] [2, 3] [] ⟨[(2, (.ptr 2 0, [])), (3, (.ptr 3 0, [])), (9, (.v (.bool (c25_.gKind != c26_.gKind)), []))], [(2, ([.int .i64 c25_.gKind, .str c25_.gName, .int .i64 c25_.gNum, .sl (List.map GTerm.c c25_.gKids)], [])), (3, ([.int .i64 c26_.gKind, .str c26_.gName, .int .i64 c26_.gNum, .sl (List.map GTerm.c c26_.gKids)], []))], []⟩ _ (by kernel_rfl) .nil ?_
      rcases oif h with ⟨h24, h⟩ | ⟨h24, h⟩
      · refine Wc.condT h24 (by kernel_rfl) ?_
        refine Wc.seq ?_
        refine Wc.region [] [4] [] [] ⟨[(4, (.v (.bool false), []))], [], []⟩ _ (by kernel_rfl) .nil ?_
        refine Wc.ret ?_
        obtain rfl := Option.some.inj h
        exact ⟨.inl rfl, by kernel_rfl⟩
      · refine Wc.condF h24 (by kernel_rfl) ?_
        refine Wc.keep [2, 3] [2, 3] [] ⟨[(2, (.ptr 2 0, [])), (3, (.ptr 3 0, []))], [(2, ([.int .i64 c25_.gKind, .str c25_.gName, .int .i64 c25_.gNum, .sl (List.map GTerm.c c25_.gKids)], [])), (3, ([.int .i64 c26_.gKind, .str c26_.gName, .int .i64 c26_.gNum, .sl (List.map GTerm.c c26_.gKids)], []))], []⟩ (by kernel_rfl) ?_
        refine Wc.skip ?_
        refine Wc.seq ?_
        refine Wc.seq ?_
        refine Wc.region [] [2, 3, 14] [2, 3] [] ⟨[(2, (.ptr 2 0, [])), (3, (.ptr 3 0, [])), (14, (.v (.bool (!(sEq c25_.gName c26_.gName))), []))], [(2, ([.int .i64 c25_.gKind, .str c25_.gName, .int .i64 c25_.gNum, .sl (List.map GTerm.c c25_.gKids)], [])), (3, ([.int .i64 c26_.gKind, .str c26_.gName, .int .i64 c26_.gNum, .sl (List.map GTerm.c c26_.gKids)], []))], []⟩ _ (by kernel_rfl) .nil ?_
        rcases oif h with ⟨h25, h⟩ | ⟨h25, h⟩
        · refine Wc.condT h25 (by kernel_rfl) ?_
          refine Wc.seq ?_
          refine Wc.region [] [4] [] [] ⟨[(4, (.v (.bool false), []))], [], []⟩ _ (by kernel_rfl) .nil ?_
          refine Wc.ret ?_
          obtain rfl := Option.some.inj h
          exact ⟨.inl rfl, by kernel_rfl⟩
        · refine Wc.condF h25 (by kernel_rfl) ?_
          refine Wc.keep [2, 3] [2, 3] [] ⟨[(2, (.ptr 2 0, [])), (3, (.ptr 3 0, []))], [(2, ([.int .i64 c25_.gKind, .str c25_.gName, .int .i64 c25_.gNum, .sl (List.map GTerm.c c25_.gKids)], [])), (3, ([.int .i64 c26_.gKind, .str c26_.gName, .int .i64 c26_.gNum, .sl (List.map GTerm.c c26_.gKids)], []))], []⟩ (by kernel_rfl) ?_
          refine Wc.skip ?_
          refine Wc.seq ?_
          refine Wc.seq ?_
          refine Wc.region [] [2, 3, 19] [2, 3] [] ⟨[(2, (.ptr 2 0, [])), (3, (.ptr 3 0, [])), (19, (.v (.bool (c25_.gNum != c26_.gNum)), []))], [(2, ([.int .i64 c25_.gKind, .str c25_.gName, .int .i64 c25_.gNum, .sl (List.map GTerm.c c25_.gKids)], [])), (3, ([.int .i64 c26_.gKind, .str c26_.gName, .int .i64 c26_.gNum, .sl (List.map GTerm.c c26_.gKids)], []))], []⟩ _ (by kernel_rfl) .nil ?_
          rcases oif h with ⟨h26, h⟩ | ⟨h26, h⟩
          · refine Wc.condT h26 (by kernel_rfl) ?_
            refine Wc.seq ?_
            refine Wc.region [] [4] [] [] ⟨[(4, (.v (.bool false), []))], [], []⟩ _ (by kernel_rfl) .nil ?_
            refine Wc.ret ?_
            obtain rfl := Option.some.inj h
            exact ⟨.inl rfl, by kernel_rfl⟩
          · refine Wc.condF h26 (by kernel_rfl) ?_
            refine Wc.keep [2, 3] [2, 3] [] ⟨[(2, (.ptr 2 0, [])), (3, (.ptr 3 0, []))], [(2, ([.int .i64 c25_.gKind, .str c25_.gName, .int .i64 c25_.gNum, .sl (List.map GTerm.c c25_.gKids)], [])), (3, ([.int .i64 c26_.gKind, .str c26_.gName, .int .i64 c26_.gNum, .sl (List.map GTerm.c c26_.gKids)], []))], []⟩ (by kernel_rfl) ?_
            refine Wc.skip ?_
            refine Wc.seq ?_
            refine Wc.seq ?_
            obtain ⟨d27_, h27, h⟩ := obind h
            refine Wc.region [((none, []), none), ((none, []), none), ((none, []), none), ((none, []), none), ((some (.bool d27_), []), none)] [25] [] [] ⟨[(25, (.v (.bool (!d27_)), []))], [], []⟩ _ (by kernel_rfl) (.cons (ih_plaws_eqTermS h27) .nil) ?_
            rcases oif h with ⟨h28, h⟩ | ⟨h28, h⟩
            · refine Wc.condT h28 (by kernel_rfl) ?_
              refine Wc.seq ?_
              refine Wc.region [] [4] [] [] ⟨[(4, (.v (.bool false), []))], [], []⟩ _ (by kernel_rfl) .nil ?_
              refine Wc.ret ?_
              obtain rfl := Option.some.inj h
              exact ⟨.inl rfl, by kernel_rfl⟩
            · refine Wc.condF h28 (by kernel_rfl) ?_
              refine Wc.keep [] [] [] ⟨[], [], []⟩ (by kernel_rfl) ?_
              refine Wc.skip ?_
              refine Wc.seq ?_
              refine Wc.region [] [4] [] [] ⟨[(4, (.v (.bool true), []))], [], []⟩ _ (by kernel_rfl) .nil ?_
              refine Wc.ret ?_
              obtain rfl := Option.some.inj h
              exact ⟨.inl rfl, by kernel_rfl⟩
theorem claws_eqTermS {k : Nat} {a19_ : List GTerm} {a20_ : List GTerm} {r : Bool} (h : plaws_eqTermS k a19_ a20_ = some r) : FnC Try.prog 26 [.sl (List.map GTerm.c a19_), .sl (List.map GTerm.c a20_)] (.bool r) [] := (all_plaws_eqTermS k).1 h
theorem claws_eqTerm {k : Nat} {c25_ : GTerm} {c26_ : GTerm} {r : Bool} (h : plaws_eqTerm k c25_ c26_ = some r) : FnC Try.prog 27 [.agg [.int .i64 c25_.gKind, .str c25_.gName, .int .i64 c25_.gNum, .sl (List.map GTerm.c c25_.gKids)], .agg [.int .i64 c26_.gKind, .str c26_.gName, .int .i64 c26_.gNum, .sl (List.map GTerm.c c26_.gKids)]] (.bool r) [] := (all_plaws_eqTermS k).2 h

/-- laws.szBinds -/
def plaws_szBinds (k : Nat) (e28_ : GBinds) (b29_ : Int) : Option Int :=
  (plaws_szTermS k e28_.gList b29_).bind fun b30_ =>
  if (decide (b30_ < 0)) = true then
    some (-1)
  else
    some b30_
theorem claws_szBinds {k : Nat} {e28_ : GBinds} {b29_ : Int} {r : Int} (h : plaws_szBinds k e28_ b29_ = some r) : FnC Try.prog 33 [.agg [.sl (List.map GTerm.c e28_.gList)], .int .i64 b29_] (.int .i64 r) [] := by
  refine FnC.of Try.func33 (rfl : Try.f33.body = some _) (Nat.le_of_ble_eq_true (by kernel_rfl)) ?_
  intro w0 X0
  unfold plaws_szBinds at h
  refine Wc.seq ?_
  refine Wc.region [] [1, 2] [2] [] ⟨[(1, (.v (.int .i64 b29_), [])), (2, (.ptr 2 0, []))], [(2, ([.sl (List.map GTerm.c e28_.gList)], []))], []⟩ _ (by kernel_rfl) .nil ?_
  refine Wc.seq ?_
  obtain ⟨b30_, h29, h⟩ := obind h
  refine Wc.region [((none, []), none), ((none, []), none), ((none, []), none), ((some (.int .i64 b30_), []), none)] [1] [] [] ⟨[(1, (.v (.int .i64 b30_), []))], [], []⟩ _ (by kernel_rfl) (.cons (claws_szTermS h29) .nil) ?_
  refine Wc.seq ?_
  refine Wc.seq ?_
  refine Wc.region [] [1, 10] [] [] ⟨[(1, (.v (.int .i64 b30_), [])), (10, (.v (.bool (decide (b30_ < 0))), []))], [], []⟩ _ (by kernel_rfl) .nil ?_
  rcases oif h with ⟨h30, h⟩ | ⟨h30, h⟩
  · refine Wc.condT h30 (by kernel_rfl) ?_
    refine Wc.seq ?_
    refine Wc.region [] [4] [] [] ⟨[(4, (.v (.int .i64 (-1)), []))], [], []⟩ _ (by kernel_rfl) .nil ?_
    refine Wc.ret ?_
    obtain rfl := Option.some.inj h
    exact ⟨.inl rfl, by kernel_rfl⟩
  · refine Wc.condF h30 (by kernel_rfl) ?_
    refine Wc.keep [1] [] [] ⟨[(1, (.v (.int .i64 b30_), []))], [], []⟩ (by kernel_rfl) ?_
    refine Wc.skip ?_
    refine Wc.seq ?_
    refine Wc.region [] [4] [] [] ⟨[(4, (.v (.int .i64 b30_), []))], [], []⟩ _ (by kernel_rfl) .nil ?_
    refine Wc.ret ?_
    obtain rfl := Option.some.inj h
    exact ⟨.inl rfl, by kernel_rfl⟩

/-- spec.l01In -/
def pspec_l01In (k : Nat) (b31_ : Int) (b32_ : Int) (b33_ : Int) : Option Bool :=
  if (decide (b31_ ≥ b32_)) = true then
    some (decide (b31_ ≤ b33_))
  else
    some false
theorem cspec_l01In {k : Nat} {b31_ : Int} {b32_ : Int} {b33_ : Int} {r : Bool} (h : pspec_l01In k b31_ b32_ b33_ = some r) : FnC Try.prog 58 [.int .i64 b31_, .int .i64 b32_, .int .i64 b33_] (.bool r) [] := by
  refine FnC.of Try.func58 (rfl : Try.f58.body = some _) (Nat.le_of_ble_eq_true (by kernel_rfl)) ?_
  intro w0 X0
  unfold pspec_l01In at h
  refine Wc.seq ?_
  refine Wc.region [] [0, 1, 2] [] [] ⟨[(0, (.v (.int .i64 b31_), [])), (1, (.v (.int .i64 b32_), [])), (2, (.v (.int .i64 b33_), []))], [], []⟩ _ (by kernel_rfl) .nil ?_
  refine Wc.seq ?_
  rcases oif h with ⟨h31, h⟩ | ⟨h31, h⟩
  · refine Wc.region [((none, []), none), ((none, []), none), ((none, []), none), ((none, []), some (.bool true))] [6] [] [] ⟨[(6, (.v (.bool (decide (b31_ ≤ b33_))), []))], [], []⟩ _ (by kernel_rfl) (.cons (congrArg AV.bool h31) .nil) ?_
    refine Wc.ret ?_
    obtain rfl := Option.some.inj h
    exact ⟨.inl rfl, by kernel_rfl⟩
  · refine Wc.region [((none, []), none), ((none, []), none), ((none, []), none), ((none, []), some (.bool false))] [6] [] [] ⟨[(6, (.v (.bool false), []))], [], []⟩ _ (by kernel_rfl) (.cons (congrArg AV.bool h31) .nil) ?_
    refine Wc.ret ?_
    obtain rfl := Option.some.inj h
    exact ⟨.inl rfl, by kernel_rfl⟩

def pspec_l04Walk_L1 (k : Nat) (a34_ : List GTerm) : Nat → Int → GTerm → Option (Out GTerm GTerm)
  | 0, _, _ => none
  | m + 1, b36_, c37_ =>
    if (decide (b36_ < 5000)) = true then
      if (c37_.gKind != 1) = true then
        some (.done c37_)
      else
        (pspec_l01In k c37_.gNum 0 (wr.i64 ((a34_.length : Int) - 1))).bind fun d39_ =>
        if (!d39_) = true then
          some (.done c37_)
        else
          (at' a34_ c37_.gNum).bind fun c40_ =>
          if (c40_.gKind == 0) = true then
            some (.done c37_)
          else
            (at' a34_ c37_.gNum).bind fun c41_ =>
            pspec_l04Walk_L1 k a34_ m (wr.i64 (b36_ + 1)) c41_
    else
      some (.done c37_)
/-- spec.l04Walk -/
def pspec_l04Walk (k : Nat) (a34_ : List GTerm) (c35_ : GTerm) : Option GTerm :=
  (pspec_l04Walk_L1 k a34_ k 0 c35_).bind fun out1 => match out1 with
  | .ret r => some r
  | .done c38_ =>
    some c38_
theorem cspec_l04Walk {k : Nat} {a34_ : List GTerm} {c35_ : GTerm} {r : GTerm} (h : pspec_l04Walk k a34_ c35_ = some r) : FnC Try.prog 67 [.sl (List.map GTerm.c a34_), .agg [.int .i64 c35_.gKind, .str c35_.gName, .int .i64 c35_.gNum, .sl (List.map GTerm.c c35_.gKids)]] (.agg [.int .i64 r.gKind, .str r.gName, .int .i64 r.gNum, .sl (List.map GTerm.c r.gKids)]) [] := by
  refine FnC.of Try.func67 (rfl : Try.f67.body = some _) (Nat.le_of_ble_eq_true (by kernel_rfl)) ?_
  intro w0 X0
  unfold pspec_l04Walk at h
  refine Wc.seq ?_
  refine Wc.region [] [0, 3, 4] [3, 4] [] ⟨[(0, (.v (.sl (List.map GTerm.c a34_)), [])), (3, (.ptr 3 0, [])), (4, (.ptr 4 0, []))], [(3, ([.int .i64 c35_.gKind, .str c35_.gName, .int .i64 c35_.gNum, .sl (List.map GTerm.c c35_.gKids)], [])), (4, ([.int .i64 0, .str (bs []), .int .i64 0, .sl (List.map GTerm.c [])], [(3, 48)]))], []⟩ _ (by kernel_rfl) .nil ?_
  refine Wc.seq ?_
  refine Wc.seq ?_
  refine Wc.region [] [0, 3, 4, 5] [3, 4] [] ⟨[(0, (.v (.sl (List.map GTerm.c a34_)), [])), (3, (.ptr 3 0, [])), (4, (.ptr 4 0, [])), (5, (.v (.int .i64 0), []))], [(3, ([.int .i64 c35_.gKind, .str c35_.gName, .int .i64 c35_.gNum, .sl (List.map GTerm.c c35_.gKids)], [])), (4, ([.int .i64 0, .str (bs []), .int .i64 0, .sl (List.map GTerm.c [])], [(3, 48)]))], []⟩ _ (by kernel_rfl) .nil ?_
  obtain ⟨out1, h32, h⟩ := obind h
  refine Wc.lastJ (fun st => ∃ (c38_ : GTerm), out1 = .done c38_ ∧ st = ⟨[(3, (.ptr 3 0, [])), (4, (.ptr 4 0, []))], [(3, ([.int .i64 c38_.gKind, .str c38_.gName, .int .i64 c38_.gNum, .sl (List.map GTerm.c c38_.gKids)], [])), (4, ([.int .i64 0, .str (bs []), .int .i64 0, .sl (List.map GTerm.c [])], [(3, 48)]))], []⟩) ?_ ?_
  · refine Wc.block ?_
    refine Wc.loop (fun m st => ∃ (b36_ : Int) (c37_ : GTerm), st = ⟨[(0, (.v (.sl (List.map GTerm.c a34_)), [])), (3, (.ptr 3 0, [])), (4, (.ptr 4 0, [])), (5, (.v (.int .i64 b36_), []))], [(3, ([.int .i64 c37_.gKind, .str c37_.gName, .int .i64 c37_.gNum, .sl (List.map GTerm.c c37_.gKids)], [])), (4, ([.int .i64 0, .str (bs []), .int .i64 0, .sl (List.map GTerm.c [])], [(3, 48)]))], []⟩ ∧ pspec_l04Walk_L1 k a34_ m b36_ c37_ = some out1) ?_ k ⟨_, _, rfl, h32⟩
    rintro m st ⟨b36_, c37_, rfl, h32⟩
    cases m with
    | zero => exact (onone h32).elim
    | succ m =>
      refine Wc.seq ?_
      refine Wc.seq ?_
      refine Wc.region [] [0, 3, 4, 5, 7] [3, 4] [] ⟨[(0, (.v (.sl (List.map GTerm.c a34_)), [])), (3, (.ptr 3 0, [])), (4, (.ptr 4 0, [])), (5, (.v (.int .i64 b36_), [])), (7, (.v (.bool (decide (b36_ < 5000))), []))], [(3, ([.int .i64 c37_.gKind, .str c37_.gName, .int .i64 c37_.gNum, .sl (List.map GTerm.c c37_.gKids)], [])), (4, ([.int .i64 0, .str (bs []), .int .i64 0, .sl (List.map GTerm.c [])], [(3, 48)]))], []⟩ _ (by kernel_rfl) .nil ?_
      rcases oif h32 with ⟨h33, h32⟩ | ⟨h33, h32⟩
      · refine Wc.condT h33 (by kernel_rfl) ?_
        refine Wc.keep [0, 3, 4, 5] [3, 4] [] ⟨[(0, (.v (.sl (List.map GTerm.c a34_)), [])), (3, (.ptr 3 0, [])), (4, (.ptr 4 0, [])), (5, (.v (.int .i64 b36_), []))], [(3, ([.int .i64 c37_.gKind, .str c37_.gName, .int .i64 c37_.gNum, .sl (List.map GTerm.c c37_.gKids)], [])), (4, ([.int .i64 0, .str (bs []), .int .i64 0, .sl (List.map GTerm.c [])], [(3, 48)]))], []⟩ (by kernel_rfl) ?_
        refine Wc.skip ?_
        refine Wc.seq ?_
        refine Wc.block ?_
        refine Wc.seq ?_
        refine Wc.seq ?_
        rcases oif h32 with ⟨h34, h32⟩ | ⟨h34, h32⟩
        · refine Wc.region [((none, []), none), ((none, []), none), ((none, []), none), ((none, []), some (.bool true))] [0, 3, 4, 5, 30] [3, 4] [] ⟨[(0, (.v (.sl (List.map GTerm.c a34_)), [])), (3, (.ptr 3 0, [])), (4, (.ptr 4 0, [])), (5, (.v (.int .i64 b36_), [])), (30, (.v (.bool true), []))], [(3, ([.int .i64 c37_.gKind, .str c37_.gName, .int .i64 c37_.gNum, .sl (List.map GTerm.c c37_.gKids)], [])), (4, ([.int .i64 0, .str (bs []), .int .i64 0, .sl (List.map GTerm.c [])], [(3, 48)]))], []⟩ _ (by kernel_rfl) (.cons (congrArg AV.bool h34) .nil) ?_
          refine Wc.condT rfl (by kernel_rfl) ?_
          refine Wc.keep [3, 4] [3, 4] [] ⟨[(3, (.ptr 3 0, [])), (4, (.ptr 4 0, []))], [(3, ([.int .i64 c37_.gKind, .str c37_.gName, .int .i64 c37_.gNum, .sl (List.map GTerm.c c37_.gKids)], [])), (4, ([.int .i64 0, .str (bs []), .int .i64 0, .sl (List.map GTerm.c [])], [(3, 48)]))], []⟩ (by kernel_rfl) ?_
          refine Wc.exit ?_
          obtain rfl := Option.some.inj h32
          exact ⟨_, rfl, rfl⟩
        · obtain ⟨d39_, h35, h32⟩ := obind h32
          rcases oif h32 with ⟨h36, h32⟩ | ⟨h36, h32⟩
          · refine Wc.region [((none, []), none), ((none, []), none), ((none, []), none), ((none, []), some (.bool false)), ((none, []), none), ((none, []), none), ((none, []), none), ((some (.int .i64 (a34_.length : Int)), []), none), ((none, []), none), ((some (.bool d39_), []), none), ((none, []), none), ((none, []), none), ((none, []), some (.bool true))] [0, 3, 4, 5, 30] [3, 4] [] ⟨[(0, (.v (.sl (List.map GTerm.c a34_)), [])), (3, (.ptr 3 0, [])), (4, (.ptr 4 0, [])), (5, (.v (.int .i64 b36_), [])), (30, (.v (.bool true), []))], [(3, ([.int .i64 c37_.gKind, .str c37_.gName, .int .i64 c37_.gNum, .sl (List.map GTerm.c c37_.gKids)], [])), (4, ([.int .i64 0, .str (bs []), .int .i64 0, .sl (List.map GTerm.c [])], [(3, 48)]))], []⟩ _ (by kernel_rfl) (.cons (congrArg AV.bool h34) (.cons (len_obl GTerm.c a34_) (.cons (cspec_l01In h35) (.cons (congrArg AV.bool h36) .nil)))) ?_
            refine Wc.condT rfl (by kernel_rfl) ?_
            refine Wc.keep [3, 4] [3, 4] [] ⟨[(3, (.ptr 3 0, [])), (4, (.ptr 4 0, []))], [(3, ([.int .i64 c37_.gKind, .str c37_.gName, .int .i64 c37_.gNum, .sl (List.map GTerm.c c37_.gKids)], [])), (4, ([.int .i64 0, .str (bs []), .int .i64 0, .sl (List.map GTerm.c [])], [(3, 48)]))], []⟩ (by kernel_rfl) ?_
            refine Wc.exit ?_
            obtain rfl := Option.some.inj h32
            exact ⟨_, rfl, rfl⟩
          · obtain ⟨c40_, h37, h32⟩ := obind h32
            refine Wc.region [((none, []), none), ((none, []), none), ((none, []), none), ((none, []), some (.bool false)), ((none, []), none), ((none, []), none), ((none, []), none), ((some (.int .i64 (a34_.length : Int)), []), none), ((none, []), none), ((some (.bool d39_), []), none), ((none, []), none), ((none, []), none), ((none, []), some (.bool false)), ((none, []), none), ((none, []), none), ((none, []), none), ((some (.vptr [.int .i64 c40_.gKind, .str c40_.gName, .int .i64 c40_.gNum, .sl (List.map GTerm.c c40_.gKids)]), []), none)] [0, 3, 4, 5, 30] [3, 4] [] ⟨[(0, (.v (.sl (List.map GTerm.c a34_)), [])), (3, (.ptr 3 0, [])), (4, (.ptr 4 0, [])), (5, (.v (.int .i64 b36_), [])), (30, (.v (.bool (c40_.gKind == 0)), []))], [(3, ([.int .i64 c37_.gKind, .str c37_.gName, .int .i64 c37_.gNum, .sl (List.map GTerm.c c37_.gKids)], [])), (4, ([.int .i64 0, .str (bs []), .int .i64 0, .sl (List.map GTerm.c [])], [(3, 48)]))], []⟩ _ (by kernel_rfl) (.cons (congrArg AV.bool h34) (.cons (len_obl GTerm.c a34_) (.cons (cspec_l01In h35) (.cons (congrArg AV.bool h36) (.cons (at_obl (c := GTerm.c) (GTerm.c_eq c40_) GTerm.c_len h37) (.cons (len_ok 1 [.int .i64 c40_.gKind, .str c40_.gName, .int .i64 c40_.gNum, .sl (List.map GTerm.c c40_.gKids)]) .nil)))))) ?_
            rcases oif h32 with ⟨h38, h32⟩ | ⟨h38, h32⟩
            · refine Wc.condT h38 (by kernel_rfl) ?_
              refine Wc.keep [3, 4] [3, 4] [] ⟨[(3, (.ptr 3 0, [])), (4, (.ptr 4 0, []))], [(3, ([.int .i64 c37_.gKind, .str c37_.gName, .int .i64 c37_.gNum, .sl (List.map GTerm.c c37_.gKids)], [])), (4, ([.int .i64 0, .str (bs []), .int .i64 0, .sl (List.map GTerm.c [])], [(3, 48)]))], []⟩ (by kernel_rfl) ?_
              refine Wc.exit ?_
              obtain rfl := Option.some.inj h32
              exact ⟨_, rfl, rfl⟩
            · refine Wc.condF h38 (by kernel_rfl) ?_
              refine Wc.keep [0, 3, 4, 5] [3, 4] [] ⟨[(0, (.v (.sl (List.map GTerm.c a34_)), [])), (3, (.ptr 3 0, [])), (4, (.ptr 4 0, [])), (5, (.v (.int .i64 b36_), []))], [(3, ([.int .i64 c37_.gKind, .str c37_.gName, .int .i64 c37_.gNum, .sl (List.map GTerm.c c37_.gKids)], [])), (4, ([.int .i64 0, .str (bs []), .int .i64 0, .sl (List.map GTerm.c [])], [(3, 48)]))], []⟩ (by kernel_rfl) ?_
              refine Wc.skip ?_
              obtain ⟨c41_, h39, h32⟩ := obind h32
              refine Wc.region [((none, []), none), ((none, []), none), ((none, []), none), ((some (.vptr [.int .i64 c41_.gKind, .str c41_.gName, .int .i64 c41_.gNum, .sl (List.map GTerm.c c41_.gKids)]), []), none)] [0, 3, 4, 5] [3, 4] [] ⟨[(0, (.v (.sl (List.map GTerm.c a34_)), [])), (3, (.ptr 3 0, [])), (4, (.ptr 4 0, [])), (5, (.v (.int .i64 b36_), []))], [(3, ([.int .i64 c41_.gKind, .str c41_.gName, .int .i64 c41_.gNum, .sl (List.map GTerm.c c41_.gKids)], [])), (4, ([.int .i64 0, .str (bs []), .int .i64 0, .sl (List.map GTerm.c [])], [(3, 48)]))], []⟩ _ (by kernel_rfl) (.cons (at_obl (c := GTerm.c) (GTerm.c_eq c41_) GTerm.c_len h39) (.cons (len_ok 4 [.int .i64 c41_.gKind, .str c41_.gName, .int .i64 c41_.gNum, .sl (List.map GTerm.c c41_.gKids)]) .nil)) ?_
              refine Wc.region [] [0, 3, 4, 5] [3, 4] [] ⟨[(0, (.v (.sl (List.map GTerm.c a34_)), [])), (3, (.ptr 3 0, [])), (4, (.ptr 4 0, [])), (5, (.v (.int .i64 (wr.i64 (b36_ + 1))), []))], [(3, ([.int .i64 c41_.gKind, .str c41_.gName, .int .i64 c41_.gNum, .sl (List.map GTerm.c c41_.gKids)], [])), (4, ([.int .i64 0, .str (bs []), .int .i64 0, .sl (List.map GTerm.c [])], [(3, 48)]))], []⟩ _ (by kernel_rfl) .nil ?_
              exact ⟨_, Nat.lt_succ_self _, _, _, rfl, h32⟩
      · refine Wc.condF h33 (by kernel_rfl) ?_
        refine Wc.keep [3, 4] [3, 4] [] ⟨[(3, (.ptr 3 0, [])), (4, (.ptr 4 0, []))], [(3, ([.int .i64 c37_.gKind, .str c37_.gName, .int .i64 c37_.gNum, .sl (List.map GTerm.c c37_.gKids)], [])), (4, ([.int .i64 0, .str (bs []), .int .i64 0, .sl (List.map GTerm.c [])], [(3, 48)]))], []⟩ (by kernel_rfl) ?_
        refine Wc.exit ?_
        obtain rfl := Option.some.inj h32
        exact ⟨_, rfl, rfl⟩
  · rintro st ⟨c38_, rfl, rfl⟩
    refine Wc.seq ?_
    refine Wc.region [] [4] [4] [] ⟨[(4, (.ptr 4 0, []))], [(4, ([.int .i64 c38_.gKind, .str c38_.gName, .int .i64 c38_.gNum, .sl (List.map GTerm.c c38_.gKids)], []))], []⟩ _ (by kernel_rfl) .nil ?_
    refine Wc.ret ?_
    obtain rfl := Option.some.inj h
    exact ⟨.inl rfl, by kernel_rfl⟩

/-- spec.l10Range -/
def pspec_l10Range (k : Nat) (b42_ : Int) : Option (Int × Int) :=
  (pspec_l01In k b42_ (-999999999) 999999999).bind fun d43_ =>
  if (!d43_) = true then
    some (0, 3)
  else
    some (b42_, 0)
theorem cspec_l10Range {k : Nat} {b42_ : Int} {r : Int × Int} (h : pspec_l10Range k b42_ = some r) : FnC Try.prog 68 [.int .i64 b42_] (.tup [.int .i64 r.1, .int .i64 r.2]) [] := by
  refine FnC.of Try.func68 (rfl : Try.f68.body = some _) (Nat.le_of_ble_eq_true (by kernel_rfl)) ?_
  intro w0 X0
  unfold pspec_l10Range at h
  refine Wc.seq ?_
  refine Wc.region [] [0] [] [] ⟨[(0, (.v (.int .i64 b42_), []))], [], []⟩ _ (by kernel_rfl) .nil ?_
  refine Wc.seq ?_
  refine Wc.seq ?_
  obtain ⟨d43_, h40, h⟩ := obind h
  refine Wc.region [((none, []), none), ((some (.bool d43_), []), none)] [0, 6] [] [] ⟨[(0, (.v (.int .i64 b42_), [])), (6, (.v (.bool (!d43_)), []))], [], []⟩ _ (by kernel_rfl) (.cons (cspec_l01In h40) .nil) ?_
  rcases oif h with ⟨h41, h⟩ | ⟨h41, h⟩
  · refine Wc.condT h41 (by kernel_rfl) ?_
    refine Wc.seq ?_
    refine Wc.region [] [2, 3] [] [] ⟨[(2, (.v (.int .i64 0), [])), (3, (.v (.int .i64 3), []))], [], []⟩ _ (by kernel_rfl) .nil ?_
    refine Wc.ret ?_
    obtain rfl := Option.some.inj h
    exact ⟨.inl rfl, by kernel_rfl⟩
  · refine Wc.condF h41 (by kernel_rfl) ?_
    refine Wc.keep [0] [] [] ⟨[(0, (.v (.int .i64 b42_), []))], [], []⟩ (by kernel_rfl) ?_
    refine Wc.skip ?_
    refine Wc.seq ?_
    refine Wc.region [] [2, 3] [] [] ⟨[(2, (.v (.int .i64 b42_), [])), (3, (.v (.int .i64 0), []))], [], []⟩ _ (by kernel_rfl) .nil ?_
    refine Wc.ret ?_
    obtain rfl := Option.some.inj h
    exact ⟨.inl rfl, by kernel_rfl⟩

/-- spec.l03Is -/
def pspec_l03Is (k : Nat) (c44_ : GTerm) (f45_ : ByteArray) (b46_ : Int) : Option Bool :=
  if (c44_.gKind == 4) = true then
    if (sEq c44_.gName f45_) = true then
      some ((c44_.gKids.length : Int) == b46_)
    else
      some false
  else
    some false
theorem cspec_l03Is {k : Nat} {c44_ : GTerm} {f45_ : ByteArray} {b46_ : Int} {r : Bool} (h : pspec_l03Is k c44_ f45_ b46_ = some r) : FnC Try.prog 69 [.agg [.int .i64 c44_.gKind, .str c44_.gName, .int .i64 c44_.gNum, .sl (List.map GTerm.c c44_.gKids)], .str f45_, .int .i64 b46_] (.bool r) [] := by
  refine FnC.of Try.func69 (rfl : Try.f69.body = some _) (Nat.le_of_ble_eq_true (by kernel_rfl)) ?_
  intro w0 X0
  unfold pspec_l03Is at h
  refine Wc.seq ?_
  refine Wc.region [] [1, 2, 3] [3] [] ⟨[(1, (.v (.str f45_), [])), (2, (.v (.int .i64 b46_), [])), (3, (.ptr 3 0, []))], [(3, ([.int .i64 c44_.gKind, .str c44_.gName, .int .i64 c44_.gNum, .sl (List.map GTerm.c c44_.gKids)], []))], []⟩ _ (by kernel_rfl) .nil ?_
  refine Wc.seq ?_
  rcases oif h with ⟨h42, h⟩ | ⟨h42, h⟩
  · rcases oif h with ⟨h43, h⟩ | ⟨h43, h⟩
    · refine Wc.region [((none, []), none), ((none, []), none), ((none, []), none), ((none, []), some (.bool true)), ((none, []), none), ((none, []), none), ((none, []), none), ((none, []), none), ((none, []), none), ((none, []), some (.bool true)), ((none, []), none), ((none, []), none), ((some (.int .i64 (c44_.gKids.length : Int)), []), none)] [6] [] [] ⟨[(6, (.v (.bool ((c44_.gKids.length : Int) == b46_)), []))], [], []⟩ _ (by kernel_rfl) (.cons (congrArg AV.bool h42) (.cons (congrArg AV.bool h43) (.cons (len_obl GTerm.c c44_.gKids) .nil))) ?_
      refine Wc.ret ?_
      obtain rfl := Option.some.inj h
      exact ⟨.inl rfl, by kernel_rfl⟩
    · refine Wc.region [((none, []), none), ((none, []), none), ((none, []), none), ((none, []), some (.bool true)), ((none, []), none), ((none, []), none), ((none, []), none), ((none, []), none), ((none, []), none), ((none, []), some (.bool false))] [6] [] [] ⟨[(6, (.v (.bool false), []))], [], []⟩ _ (by kernel_rfl) (.cons (congrArg AV.bool h42) (.cons (congrArg AV.bool h43) .nil)) ?_
      refine Wc.ret ?_
      obtain rfl := Option.some.inj h
      exact ⟨.inl rfl, by kernel_rfl⟩
  · refine Wc.region [((none, []), none), ((none, []), none), ((none, []), none), ((none, []), some (.bool false))] [6] [] [] ⟨[(6, (.v (.bool false), []))], [], []⟩ _ (by kernel_rfl) (.cons (congrArg AV.bool h42) .nil) ?_
    refine Wc.ret ?_
    obtain rfl := Option.some.inj h
    exact ⟨.inl rfl, by kernel_rfl⟩

/-- spec.l10Sign -/
def pspec_l10Sign (k : Nat) (f47_ : ByteArray) : Option Bool :=
  if (sEq f47_ (bs [43])) = true then
    some true
  else
    if (sEq f47_ (bs [45])) = true then
      some true
    else
      if (sEq f47_ (bs [42])) = true then
        some true
      else
        some (sEq f47_ (bs [47, 47]))
theorem cspec_l10Sign {k : Nat} {f47_ : ByteArray} {r : Bool} (h : pspec_l10Sign k f47_ = some r) : FnC Try.prog 70 [.str f47_] (.bool r) [] := by
  refine FnC.of Try.func70 (rfl : Try.f70.body = some _) (Nat.le_of_ble_eq_true (by kernel_rfl)) ?_
  intro w0 X0
  unfold pspec_l10Sign at h
  refine Wc.seq ?_
  refine Wc.region [] [0] [] [] ⟨[(0, (.v (.str f47_), []))], [], []⟩ _ (by kernel_rfl) .nil ?_
  refine Wc.seq ?_
  rcases oif h with ⟨h44, h⟩ | ⟨h44, h⟩
  · refine Wc.region [((none, []), none), ((none, []), none), ((none, []), some (.bool true))] [2] [] [] ⟨[(2, (.v (.bool true), []))], [], []⟩ _ (by kernel_rfl) (.cons (congrArg AV.bool h44) .nil) ?_
    refine Wc.ret ?_
    obtain rfl := Option.some.inj h
    exact ⟨.inl rfl, by kernel_rfl⟩
  · rcases oif h with ⟨h45, h⟩ | ⟨h45, h⟩
    · refine Wc.region [((none, []), none), ((none, []), none), ((none, []), some (.bool false)), ((none, []), none), ((none, []), none), ((none, []), none), ((none, []), some (.bool true))] [2] [] [] ⟨[(2, (.v (.bool true), []))], [], []⟩ _ (by kernel_rfl) (.cons (congrArg AV.bool h44) (.cons (congrArg AV.bool h45) .nil)) ?_
      refine Wc.ret ?_
      obtain rfl := Option.some.inj h
      exact ⟨.inl rfl, by kernel_rfl⟩
    · rcases oif h with ⟨h46, h⟩ | ⟨h46, h⟩
      · refine Wc.region [((none, []), none), ((none, []), none), ((none, []), some (.bool false)), ((none, []), none), ((none, []), none), ((none, []), none), ((none, []), some (.bool false)), ((none, []), none), ((none, []), none), ((none, []), none), ((none, []), some (.bool true))] [2] [] [] ⟨[(2, (.v (.bool true), []))], [], []⟩ _ (by kernel_rfl) (.cons (congrArg AV.bool h44) (.cons (congrArg AV.bool h45) (.cons (congrArg AV.bool h46) .nil))) ?_
        refine Wc.ret ?_
        obtain rfl := Option.some.inj h
        exact ⟨.inl rfl, by kernel_rfl⟩
      · refine Wc.region [((none, []), none), ((none, []), none), ((none, []), some (.bool false)), ((none, []), none), ((none, []), none), ((none, []), none), ((none, []), some (.bool false)), ((none, []), none), ((none, []), none), ((none, []), none), ((none, []), some (.bool false))] [2] [] [] ⟨[(2, (.v (.bool (sEq f47_ (bs [47, 47]))), []))], [], []⟩ _ (by kernel_rfl) (.cons (congrArg AV.bool h44) (.cons (congrArg AV.bool h45) (.cons (congrArg AV.bool h46) .nil))) ?_
        refine Wc.ret ?_
        obtain rfl := Option.some.inj h
        exact ⟨.inl rfl, by kernel_rfl⟩

/-- spec.l10Two -/
def pspec_l10Two (k : Nat) (f48_ : ByteArray) (b49_ : Int) (b50_ : Int) : Option (Int × Int) :=
  if (sEq f48_ (bs [43])) = true then
    (pspec_l10Range k (wr.i64 (b49_ + b50_))).bind fun g51_ =>
    some (g51_.1, g51_.2)
  else
    if (sEq f48_ (bs [45])) = true then
      (pspec_l10Range k (wr.i64 (b49_ - b50_))).bind fun g52_ =>
      some (g52_.1, g52_.2)
    else
      if (sEq f48_ (bs [42])) = true then
        (pspec_l10Range k (wr.i64 (b49_ * b50_))).bind fun g53_ =>
        some (g53_.1, g53_.2)
      else
        if (b50_ == 0) = true then
          some (0, 4)
        else
          if b50_ ≠ 0 then
            (pspec_l10Range k (wr.i64 (Int.tdiv b49_ b50_))).bind fun g54_ =>
            some (g54_.1, g54_.2)
          else none
theorem cspec_l10Two {k : Nat} {f48_ : ByteArray} {b49_ : Int} {b50_ : Int} {r : Int × Int} (h : pspec_l10Two k f48_ b49_ b50_ = some r) : FnC Try.prog 71 [.str f48_, .int .i64 b49_, .int .i64 b50_] (.tup [.int .i64 r.1, .int .i64 r.2]) [] := by
  refine FnC.of Try.func71 (rfl : Try.f71.body = some _) (Nat.le_of_ble_eq_true (by kernel_rfl)) ?_
  intro w0 X0
  unfold pspec_l10Two at h
  refine Wc.seq ?_
  refine Wc.region [] [0, 1, 2] [] [] ⟨[(0, (.v (.str f48_), [])), (1, (.v (.int .i64 b49_), [])), (2, (.v (.int .i64 b50_), []))], [], []⟩ _ (by kernel_rfl) .nil ?_
  refine Wc.seq ?_
  refine Wc.seq ?_
  refine Wc.region [] [1, 2, 8] [] [] ⟨[(1, (.v (.int .i64 b49_), [])), (2, (.v (.int .i64 b50_), [])), (8, (.v (.str f48_), []))], [], []⟩ _ (by kernel_rfl) .nil ?_
  refine Wc.block ?_
  refine Wc.seq ?_
  refine Wc.region [] [1, 2, 8, 9] [] [] ⟨[(1, (.v (.int .i64 b49_), [])), (2, (.v (.int .i64 b50_), [])), (8, (.v (.str f48_), [])), (9, (.v (.bool (sEq f48_ (bs [43]))), []))], [], []⟩ _ (by kernel_rfl) .nil ?_
  rcases oif h with ⟨h47, h⟩ | ⟨h47, h⟩
  · refine Wc.condT h47 (by kernel_rfl) ?_
    refine Wc.seq ?_
    obtain ⟨g51_, h48, h⟩ := obind h
    refine Wc.region [((none, []), none), ((none, []), none), ((none, []), none), ((some (.tup [.int .i64 g51_.1, .int .i64 g51_.2]), []), none)] [6, 7] [] [] ⟨[(6, (.v (.int .i64 g51_.1), [])), (7, (.v (.int .i64 g51_.2), []))], [], []⟩ _ (by kernel_rfl) (.cons (cspec_l10Range h48) .nil) ?_
    refine Wc.ret ?_
    obtain rfl := Option.some.inj h
    exact ⟨.inl rfl, by kernel_rfl⟩
  · refine Wc.condF h47 (by kernel_rfl) ?_
    refine Wc.seq ?_
    refine Wc.region [] [1, 2, 8, 17] [] [] ⟨[(1, (.v (.int .i64 b49_), [])), (2, (.v (.int .i64 b50_), [])), (8, (.v (.str f48_), [])), (17, (.v (.bool (sEq f48_ (bs [45]))), []))], [], []⟩ _ (by kernel_rfl) .nil ?_
    rcases oif h with ⟨h49, h⟩ | ⟨h49, h⟩
    · refine Wc.condT h49 (by kernel_rfl) ?_
      refine Wc.seq ?_
      obtain ⟨g52_, h50, h⟩ := obind h
      refine Wc.region [((none, []), none), ((none, []), none), ((none, []), none), ((some (.tup [.int .i64 g52_.1, .int .i64 g52_.2]), []), none)] [6, 7] [] [] ⟨[(6, (.v (.int .i64 g52_.1), [])), (7, (.v (.int .i64 g52_.2), []))], [], []⟩ _ (by kernel_rfl) (.cons (cspec_l10Range h50) .nil) ?_
      refine Wc.ret ?_
      obtain rfl := Option.some.inj h
      exact ⟨.inl rfl, by kernel_rfl⟩
    · refine Wc.condF h49 (by kernel_rfl) ?_
      refine Wc.seq ?_
      refine Wc.region [] [1, 2, 25] [] [] ⟨[(1, (.v (.int .i64 b49_), [])), (2, (.v (.int .i64 b50_), [])), (25, (.v (.bool (sEq f48_ (bs [42]))), []))], [], []⟩ _ (by kernel_rfl) .nil ?_
      rcases oif h with ⟨h51, h⟩ | ⟨h51, h⟩
      · refine Wc.condT h51 (by kernel_rfl) ?_
        refine Wc.seq ?_
        obtain ⟨g53_, h52, h⟩ := obind h
        refine Wc.region [((none, []), none), ((none, []), none), ((none, []), none), ((some (.tup [.int .i64 g53_.1, .int .i64 g53_.2]), []), none)] [6, 7] [] [] ⟨[(6, (.v (.int .i64 g53_.1), [])), (7, (.v (.int .i64 g53_.2), []))], [], []⟩ _ (by kernel_rfl) (.cons (cspec_l10Range h52) .nil) ?_
        refine Wc.ret ?_
        obtain rfl := Option.some.inj h
        exact ⟨.inl rfl, by kernel_rfl⟩
      · refine Wc.condF h51 (by kernel_rfl) ?_
        refine Wc.keep [1, 2] [] [] ⟨[(1, (.v (.int .i64 b49_), [])), (2, (.v (.int .i64 b50_), []))], [], []⟩ (by kernel_rfl) ?_
        refine Wc.skip ?_
        refine Wc.seq ?_
        refine Wc.seq ?_
        refine Wc.region [] [1, 2, 34] [] [] ⟨[(1, (.v (.int .i64 b49_), [])), (2, (.v (.int .i64 b50_), [])), (34, (.v (.bool (b50_ == 0)), []))], [], []⟩ _ (by kernel_rfl) .nil ?_
        rcases oif h with ⟨h53, h⟩ | ⟨h53, h⟩
        · refine Wc.condT h53 (by kernel_rfl) ?_
          refine Wc.seq ?_
          refine Wc.region [] [6, 7] [] [] ⟨[(6, (.v (.int .i64 0), [])), (7, (.v (.int .i64 4), []))], [], []⟩ _ (by kernel_rfl) .nil ?_
          refine Wc.ret ?_
          obtain rfl := Option.some.inj h
          exact ⟨.inl rfl, by kernel_rfl⟩
        · refine Wc.condF h53 (by kernel_rfl) ?_
          refine Wc.keep [1, 2] [] [] ⟨[(1, (.v (.int .i64 b49_), [])), (2, (.v (.int .i64 b50_), []))], [], []⟩ (by kernel_rfl) ?_
          refine Wc.skip ?_
          refine Wc.seq ?_
          obtain ⟨h54, h⟩ := oguard h
          obtain ⟨g54_, h55, h⟩ := obind h
          refine Wc.region [((none, []), none), ((none, []), none), ((none, []), none), ((some (.tup [.int .i64 g54_.1, .int .i64 g54_.2]), []), none)] [6, 7] [] [] ⟨[(6, (.v (.int .i64 g54_.1), [])), (7, (.v (.int .i64 g54_.2), []))], [], []⟩ _ (by kernel_rfl) (.cons h54 (.cons (cspec_l10Range h55) .nil)) ?_
          refine Wc.ret ?_
          obtain rfl := Option.some.inj h
          exact ⟨.inl rfl, by kernel_rfl⟩

def pspec_l10Eval_J1 (k : Nat) (rspec_l10Eval : (List GTerm) → GTerm → Int → Option (Int × Int)) (c58_ : GTerm) (a55_ : List GTerm) (b57_ : Int) (d64_ : Bool) : Option (Int × Int) :=
  if d64_ = true then
    (at' c58_.gKids 0).bind fun c65_ =>
    (rspec_l10Eval a55_ c65_ (wr.i64 (b57_ + 1))).bind fun g66_ =>
    if (g66_.2 != 0) = true then
      some (0, g66_.2)
    else
      (at' c58_.gKids 1).bind fun c67_ =>
      (rspec_l10Eval a55_ c67_ (wr.i64 (b57_ + 1))).bind fun g68_ =>
      if (g68_.2 != 0) = true then
        some (0, g68_.2)
      else
        (pspec_l10Two k c58_.gName g66_.1 g68_.1).bind fun g69_ =>
        some (g69_.1, g69_.2)
  else
    some (0, 2)
mutual
/-- spec.l10Eval -/
def pspec_l10Eval : Nat → (List GTerm) → GTerm → Int → Option (Int × Int)
  | 0, _, _, _ => none
  | k + 1, a55_, c56_, b57_ =>
    (pspec_l04Walk k a55_ c56_).bind fun c58_ =>
    if (c58_.gKind == 1) = true then
      some (0, 1)
    else
      if (c58_.gKind == 3) = true then
        (pspec_l10Range k c58_.gNum).bind fun g59_ =>
        some (g59_.1, g59_.2)
      else
        if (decide (b57_ > 40)) = true then
          some (0, 2)
        else
          (pspec_l03Is k c58_ (bs [45]) 1).bind fun d60_ =>
          if d60_ = true then
            (at' c58_.gKids 0).bind fun c61_ =>
            (pspec_l10Eval k a55_ c61_ (wr.i64 (b57_ + 1))).bind fun g62_ =>
            if (g62_.2 != 0) = true then
              some (0, g62_.2)
            else
              (pspec_l10Range k (wr.i64 (0 - g62_.1))).bind fun g63_ =>
              some (g63_.1, g63_.2)
          else
            if (c58_.gKind == 4) = true then
              if ((c58_.gKids.length : Int) == 2) = true then
                (pspec_l10Sign k c58_.gName).bind fun d70_ =>
                pspec_l10Eval_J1 k (pspec_l10Eval k) c58_ a55_ b57_ d70_
              else
                pspec_l10Eval_J1 k (pspec_l10Eval k) c58_ a55_ b57_ false
            else
              pspec_l10Eval_J1 k (pspec_l10Eval k) c58_ a55_ b57_ false
end
theorem all_pspec_l10Eval : ∀ k : Nat, (∀ {a55_ : List GTerm} {c56_ : GTerm} {b57_ : Int} {r : Int × Int}, pspec_l10Eval k a55_ c56_ b57_ = some r → FnC Try.prog 55 [.sl (List.map GTerm.c a55_), .agg [.int .i64 c56_.gKind, .str c56_.gName, .int .i64 c56_.gNum, .sl (List.map GTerm.c c56_.gKids)], .int .i64 b57_] (.tup [.int .i64 r.1, .int .i64 r.2]) []) := by
  intro k
  induction k with
  | zero =>
    · intro a55_ c56_ b57_ r h
      exact (onone (by rw [pspec_l10Eval] at h; exact h)).elim
  | succ k ih =>
    have ih_pspec_l10Eval := @ih
    · intro a55_ c56_ b57_ r h
      rw [pspec_l10Eval] at h
      refine FnC.of Try.func55 (rfl : Try.f55.body = some _) (Nat.le_of_ble_eq_true (by kernel_rfl)) ?_
      intro w0 X0
      refine Wc.seq ?_
      refine Wc.region [] [0, 2, 4] [4] [] ⟨[(0, (.v (.sl (List.map GTerm.c a55_)), [])), (2, (.v (.int .i64 b57_), [])), (4, (.ptr 4 0, []))], [(4, ([.int .i64 c56_.gKind, .str c56_.gName, .int .i64 c56_.gNum, .sl (List.map GTerm.c c56_.gKids)], []))], []⟩ _ (by kernel_rfl) .nil ?_
      refine Wc.seq ?_
      obtain ⟨c58_, h56, h⟩ := obind h
      refine Wc.region [((none, []), none), ((none, []), none), ((some (.agg [.int .i64 c58_.gKind, .str c58_.gName, .int .i64 c58_.gNum, .sl (List.map GTerm.c c58_.gKids)]), []), none)] [0, 2, 4] [4] [] ⟨[(0, (.v (.sl (List.map GTerm.c a55_)), [])), (2, (.v (.int .i64 b57_), [])), (4, (.ptr 4 0, []))], [(4, ([.int .i64 c58_.gKind, .str c58_.gName, .int .i64 c58_.gNum, .sl (List.map GTerm.c c58_.gKids)], []))], []⟩ _ (by kernel_rfl) (.cons (cspec_l04Walk h56) .nil) ?_
      refine Wc.seq ?_
      refine Wc.block ?_
      refine Wc.seq ?_
      refine Wc.region [] [0, 2, 4, 17] [4] [] ⟨[(0, (.v (.sl (List.map GTerm.c a55_)), [])), (2, (.v (.int .i64 b57_), [])), (4, (.ptr 4 0, [])), (17, (.v (.bool (c58_.gKind == 1)), []))], [(4, ([.int .i64 c58_.gKind, .str c58_.gName, .int .i64 c58_.gNum, .sl (List.map GTerm.c c58_.gKids)], []))], []⟩ _ (by kernel_rfl) .nil ?_
      rcases oif h with ⟨h57, h⟩ | ⟨h57, h⟩
      · refine Wc.condT h57 (by kernel_rfl) ?_
        refine Wc.seq ?_
        refine Wc.region [] [6, 7] [] [] ⟨[(6, (.v (.int .i64 0), [])), (7, (.v (.int .i64 1), []))], [], []⟩ _ (by kernel_rfl) .nil ?_
        refine Wc.ret ?_
        obtain rfl := Option.some.inj h
        exact ⟨.inl rfl, by kernel_rfl⟩
      · refine Wc.condF h57 (by kernel_rfl) ?_
        refine Wc.seq ?_
        refine Wc.region [] [0, 2, 4, 21] [4] [] ⟨[(0, (.v (.sl (List.map GTerm.c a55_)), [])), (2, (.v (.int .i64 b57_), [])), (4, (.ptr 4 0, [])), (21, (.v (.bool (c58_.gKind == 3)), []))], [(4, ([.int .i64 c58_.gKind, .str c58_.gName, .int .i64 c58_.gNum, .sl (List.map GTerm.c c58_.gKids)], []))], []⟩ _ (by kernel_rfl) .nil ?_
        rcases oif h with ⟨h58, h⟩ | ⟨h58, h⟩
        · refine Wc.condT h58 (by kernel_rfl) ?_
          refine Wc.seq ?_
          obtain ⟨g59_, h59, h⟩ := obind h
          refine Wc.region [((none, []), none), ((none, []), none), ((some (.tup [.int .i64 g59_.1, .int .i64 g59_.2]), []), none)] [6, 7] [] [] ⟨[(6, (.v (.int .i64 g59_.1), [])), (7, (.v (.int .i64 g59_.2), []))], [], []⟩ _ (by kernel_rfl) (.cons (cspec_l10Range h59) .nil) ?_
          refine Wc.ret ?_
          obtain rfl := Option.some.inj h
          exact ⟨.inl rfl, by kernel_rfl⟩
        · refine Wc.condF h58 (by kernel_rfl) ?_
          refine Wc.seq ?_
          refine Wc.region [] [0, 2, 4, 30] [4] [] ⟨[(0, (.v (.sl (List.map GTerm.c a55_)), [])), (2, (.v (.int .i64 b57_), [])), (4, (.ptr 4 0, [])), (30, (.v (.bool (decide (b57_ > 40))), []))], [(4, ([.int .i64 c58_.gKind, .str c58_.gName, .int .i64 c58_.gNum, .sl (List.map GTerm.c c58_.gKids)], []))], []⟩ _ (by kernel_rfl) .nil ?_
          rcases oif h with ⟨h60, h⟩ | ⟨h60, h⟩
          · refine Wc.condT h60 (by kernel_rfl) ?_
            refine Wc.seq ?_
            refine Wc.region [] [6, 7] [] [] ⟨[(6, (.v (.int .i64 0), [])), (7, (.v (.int .i64 2), []))], [], []⟩ _ (by kernel_rfl) .nil ?_
            refine Wc.ret ?_
            obtain rfl := Option.some.inj h
            exact ⟨.inl rfl, by kernel_rfl⟩
          · refine Wc.condF h60 (by kernel_rfl) ?_
            refine Wc.seq ?_
            obtain ⟨d60_, h61, h⟩ := obind h
            refine Wc.region [((none, []), none), ((some (.bool d60_), []), none)] [0, 2, 4, 33] [4] [] ⟨[(0, (.v (.sl (List.map GTerm.c a55_)), [])), (2, (.v (.int .i64 b57_), [])), (4, (.ptr 4 0, [])), (33, (.v (.bool d60_), []))], [(4, ([.int .i64 c58_.gKind, .str c58_.gName, .int .i64 c58_.gNum, .sl (List.map GTerm.c c58_.gKids)], []))], []⟩ _ (by kernel_rfl) (.cons (cspec_l03Is h61) .nil) ?_
            rcases oif h with ⟨h62, h⟩ | ⟨h62, h⟩
            · refine Wc.condT h62 (by kernel_rfl) ?_
              refine Wc.seq ?_
              obtain ⟨c61_, h63, h⟩ := obind h
              obtain ⟨g62_, h64, h⟩ := obind h
              refine Wc.region [((none, []), none), ((none, []), none), ((none, []), none), ((some (.vptr [.int .i64 c61_.gKind, .str c61_.gName, .int .i64 c61_.gNum, .sl (List.map GTerm.c c61_.gKids)]), []), none), ((none, []), none), ((none, []), none), ((none, []), none), ((some (.tup [.int .i64 g62_.1, .int .i64 g62_.2]), []), none)] [8, 9] [] [] ⟨[(8, (.v (.int .i64 g62_.1), [])), (9, (.v (.int .i64 g62_.2), []))], [], []⟩ _ (by kernel_rfl) (.cons (at_obl (c := GTerm.c) (GTerm.c_eq c61_) GTerm.c_len h63) (.cons (len_ok 4 [.int .i64 c61_.gKind, .str c61_.gName, .int .i64 c61_.gNum, .sl (List.map GTerm.c c61_.gKids)]) (.cons (ih_pspec_l10Eval h64) .nil))) ?_
              refine Wc.seq ?_
              refine Wc.seq ?_
              refine Wc.region [] [8, 9, 48] [] [] ⟨[(8, (.v (.int .i64 g62_.1), [])), (9, (.v (.int .i64 g62_.2), [])), (48, (.v (.bool (g62_.2 != 0)), []))], [], []⟩ _ (by kernel_rfl) .nil ?_
              rcases oif h with ⟨h65, h⟩ | ⟨h65, h⟩
              · refine Wc.condT h65 (by kernel_rfl) ?_
                refine Wc.seq ?_
                refine Wc.region [] [6, 7] [] [] ⟨[(6, (.v (.int .i64 0), [])), (7, (.v (.int .i64 g62_.2), []))], [], []⟩ _ (by kernel_rfl) .nil ?_
                refine Wc.ret ?_
                obtain rfl := Option.some.inj h
                exact ⟨.inl rfl, by kernel_rfl⟩
              · refine Wc.condF h65 (by kernel_rfl) ?_
                refine Wc.keep [8] [] [] ⟨[(8, (.v (.int .i64 g62_.1), []))], [], []⟩ (by kernel_rfl) ?_
                refine Wc.skip ?_
                refine Wc.seq ?_
                obtain ⟨g63_, h66, h⟩ := obind h
                refine Wc.region [((none, []), none), ((none, []), none), ((some (.tup [.int .i64 g63_.1, .int .i64 g63_.2]), []), none)] [6, 7] [] [] ⟨[(6, (.v (.int .i64 g63_.1), [])), (7, (.v (.int .i64 g63_.2), []))], [], []⟩ _ (by kernel_rfl) (.cons (cspec_l10Range h66) .nil) ?_
                refine Wc.ret ?_
                obtain rfl := Option.some.inj h
                exact ⟨.inl rfl, by kernel_rfl⟩
            · refine Wc.condF h62 (by kernel_rfl) ?_
              refine Wc.seqJ (fun st => ∃ (d64_ : Bool), st = ⟨[(0, (.v (.sl (List.map GTerm.c a55_)), [])), (2, (.v (.int .i64 b57_), [])), (4, (.ptr 4 0, [])), (55, (.v (.bool d64_), []))], [(4, ([.int .i64 c58_.gKind, .str c58_.gName, .int .i64 c58_.gNum, .sl (List.map GTerm.c c58_.gKids)], []))], []⟩ ∧ pspec_l10Eval_J1 k (pspec_l10Eval k) c58_ a55_ b57_ d64_ = some r) ?_ ?_
              · rcases oif h with ⟨h75, h⟩ | ⟨h75, h⟩
                · rcases oif h with ⟨h76, h⟩ | ⟨h76, h⟩
                  · obtain ⟨d70_, h77, h⟩ := obind h
                    refine Wc.region [((none, []), none), ((none, []), none), ((none, []), none), ((none, []), some (.bool true)), ((none, []), none), ((none, []), none), ((some (.int .i64 (c58_.gKids.length : Int)), []), none), ((none, []), none), ((none, []), none), ((none, []), some (.bool true)), ((none, []), none), ((none, []), none), ((some (.bool d70_), []), none)] [0, 2, 4, 55] [4] [] ⟨[(0, (.v (.sl (List.map GTerm.c a55_)), [])), (2, (.v (.int .i64 b57_), [])), (4, (.ptr 4 0, [])), (55, (.v (.bool d70_), []))], [(4, ([.int .i64 c58_.gKind, .str c58_.gName, .int .i64 c58_.gNum, .sl (List.map GTerm.c c58_.gKids)], []))], []⟩ _ (by kernel_rfl) (.cons (congrArg AV.bool h75) (.cons (len_obl GTerm.c c58_.gKids) (.cons (congrArg AV.bool h76) (.cons (cspec_l10Sign h77) .nil)))) ?_
                    exact ⟨_, rfl, h⟩
                  · refine Wc.region [((none, []), none), ((none, []), none), ((none, []), none), ((none, []), some (.bool true)), ((none, []), none), ((none, []), none), ((some (.int .i64 (c58_.gKids.length : Int)), []), none), ((none, []), none), ((none, []), none), ((none, []), some (.bool false))] [0, 2, 4, 55] [4] [] ⟨[(0, (.v (.sl (List.map GTerm.c a55_)), [])), (2, (.v (.int .i64 b57_), [])), (4, (.ptr 4 0, [])), (55, (.v (.bool false), []))], [(4, ([.int .i64 c58_.gKind, .str c58_.gName, .int .i64 c58_.gNum, .sl (List.map GTerm.c c58_.gKids)], []))], []⟩ _ (by kernel_rfl) (.cons (congrArg AV.bool h75) (.cons (len_obl GTerm.c c58_.gKids) (.cons (congrArg AV.bool h76) .nil))) ?_
                    exact ⟨_, rfl, h⟩
                · refine Wc.region [((none, []), none), ((none, []), none), ((none, []), none), ((none, []), some (.bool false))] [0, 2, 4, 55] [4] [] ⟨[(0, (.v (.sl (List.map GTerm.c a55_)), [])), (2, (.v (.int .i64 b57_), [])), (4, (.ptr 4 0, [])), (55, (.v (.bool false), []))], [(4, ([.int .i64 c58_.gKind, .str c58_.gName, .int .i64 c58_.gNum, .sl (List.map GTerm.c c58_.gKids)], []))], []⟩ _ (by kernel_rfl) (.cons (congrArg AV.bool h75) .nil) ?_
                  exact ⟨_, rfl, h⟩
              · rintro st ⟨d64_, rfl, h⟩
                rcases oif h with ⟨h67, h⟩ | ⟨h67, h⟩
                · refine Wc.condT h67 (by kernel_rfl) ?_
                  refine Wc.seq ?_
                  obtain ⟨c65_, h68, h⟩ := obind h
                  obtain ⟨g66_, h69, h⟩ := obind h
                  refine Wc.region [((none, []), none), ((none, []), none), ((none, []), none), ((some (.vptr [.int .i64 c65_.gKind, .str c65_.gName, .int .i64 c65_.gNum, .sl (List.map GTerm.c c65_.gKids)]), []), none), ((none, []), none), ((none, []), none), ((none, []), none), ((some (.tup [.int .i64 g66_.1, .int .i64 g66_.2]), []), none)] [0, 2, 4, 10, 11] [4] [] ⟨[(0, (.v (.sl (List.map GTerm.c a55_)), [])), (2, (.v (.int .i64 b57_), [])), (4, (.ptr 4 0, [])), (10, (.v (.int .i64 g66_.1), [])), (11, (.v (.int .i64 g66_.2), []))], [(4, ([.int .i64 c58_.gKind, .str c58_.gName, .int .i64 c58_.gNum, .sl (List.map GTerm.c c58_.gKids)], []))], []⟩ _ (by kernel_rfl) (.cons (at_obl (c := GTerm.c) (GTerm.c_eq c65_) GTerm.c_len h68) (.cons (len_ok 4 [.int .i64 c65_.gKind, .str c65_.gName, .int .i64 c65_.gNum, .sl (List.map GTerm.c c65_.gKids)]) (.cons (ih_pspec_l10Eval h69) .nil))) ?_
                  refine Wc.seq ?_
                  refine Wc.seq ?_
                  refine Wc.region [] [0, 2, 4, 10, 11, 82] [4] [] ⟨[(0, (.v (.sl (List.map GTerm.c a55_)), [])), (2, (.v (.int .i64 b57_), [])), (4, (.ptr 4 0, [])), (10, (.v (.int .i64 g66_.1), [])), (11, (.v (.int .i64 g66_.2), [])), (82, (.v (.bool (g66_.2 != 0)), []))], [(4, ([.int .i64 c58_.gKind, .str c58_.gName, .int .i64 c58_.gNum, .sl (List.map GTerm.c c58_.gKids)], []))], []⟩ _ (by kernel_rfl) .nil ?_
                  rcases oif h with ⟨h70, h⟩ | ⟨h70, h⟩
                  · refine Wc.condT h70 (by kernel_rfl) ?_
                    refine Wc.seq ?_
                    refine Wc.region [] [6, 7] [] [] ⟨[(6, (.v (.int .i64 0), [])), (7, (.v (.int .i64 g66_.2), []))], [], []⟩ _ (by kernel_rfl) .nil ?_
                    refine Wc.ret ?_
                    obtain rfl := Option.some.inj h
                    exact ⟨.inl rfl, by kernel_rfl⟩
                  · refine Wc.condF h70 (by kernel_rfl) ?_
                    refine Wc.keep [0, 2, 4, 10] [4] [] ⟨[(0, (.v (.sl (List.map GTerm.c a55_)), [])), (2, (.v (.int .i64 b57_), [])), (4, (.ptr 4 0, [])), (10, (.v (.int .i64 g66_.1), []))], [(4, ([.int .i64 c58_.gKind, .str c58_.gName, .int .i64 c58_.gNum, .sl (List.map GTerm.c c58_.gKids)], []))], []⟩ (by kernel_rfl) ?_
                    refine Wc.skip ?_
                    refine Wc.seq ?_
                    obtain ⟨c67_, h71, h⟩ := obind h
                    obtain ⟨g68_, h72, h⟩ := obind h
                    refine Wc.region [((none, []), none), ((none, []), none), ((none, []), none), ((some (.vptr [.int .i64 c67_.gKind, .str c67_.gName, .int .i64 c67_.gNum, .sl (List.map GTerm.c c67_.gKids)]), []), none), ((none, []), none), ((none, []), none), ((none, []), none), ((some (.tup [.int .i64 g68_.1, .int .i64 g68_.2]), []), none)] [4, 10, 12, 13] [4] [] ⟨[(4, (.ptr 4 0, [])), (10, (.v (.int .i64 g66_.1), [])), (12, (.v (.int .i64 g68_.1), [])), (13, (.v (.int .i64 g68_.2), []))], [(4, ([.int .i64 c58_.gKind, .str c58_.gName, .int .i64 c58_.gNum, .sl (List.map GTerm.c c58_.gKids)], []))], []⟩ _ (by kernel_rfl) (.cons (at_obl (c := GTerm.c) (GTerm.c_eq c67_) GTerm.c_len h71) (.cons (len_ok 4 [.int .i64 c67_.gKind, .str c67_.gName, .int .i64 c67_.gNum, .sl (List.map GTerm.c c67_.gKids)]) (.cons (ih_pspec_l10Eval h72) .nil))) ?_
                    refine Wc.seq ?_
                    refine Wc.seq ?_
                    refine Wc.region [] [4, 10, 12, 13, 96] [4] [] ⟨[(4, (.ptr 4 0, [])), (10, (.v (.int .i64 g66_.1), [])), (12, (.v (.int .i64 g68_.1), [])), (13, (.v (.int .i64 g68_.2), [])), (96, (.v (.bool (g68_.2 != 0)), []))], [(4, ([.int .i64 c58_.gKind, .str c58_.gName, .int .i64 c58_.gNum, .sl (List.map GTerm.c c58_.gKids)], []))], []⟩ _ (by kernel_rfl) .nil ?_
                    rcases oif h with ⟨h73, h⟩ | ⟨h73, h⟩
                    · refine Wc.condT h73 (by kernel_rfl) ?_
                      refine Wc.seq ?_
                      refine Wc.region [] [6, 7] [] [] ⟨[(6, (.v (.int .i64 0), [])), (7, (.v (.int .i64 g68_.2), []))], [], []⟩ _ (by kernel_rfl) .nil ?_
                      refine Wc.ret ?_
                      obtain rfl := Option.some.inj h
                      exact ⟨.inl rfl, by kernel_rfl⟩
                    · refine Wc.condF h73 (by kernel_rfl) ?_
                      refine Wc.keep [4, 10, 12] [4] [] ⟨[(4, (.ptr 4 0, [])), (10, (.v (.int .i64 g66_.1), [])), (12, (.v (.int .i64 g68_.1), []))], [(4, ([.int .i64 c58_.gKind, .str c58_.gName, .int .i64 c58_.gNum, .sl (List.map GTerm.c c58_.gKids)], []))], []⟩ (by kernel_rfl) ?_
                      refine Wc.skip ?_
                      refine Wc.seq ?_
                      obtain ⟨g69_, h74, h⟩ := obind h
                      refine Wc.region [((none, []), none), ((none, []), none), ((none, []), none), ((none, []), none), ((some (.tup [.int .i64 g69_.1, .int .i64 g69_.2]), []), none)] [6, 7] [] [] ⟨[(6, (.v (.int .i64 g69_.1), [])), (7, (.v (.int .i64 g69_.2), []))], [], []⟩ _ (by kernel_rfl) (.cons (cspec_l10Two h74) .nil) ?_
                      refine Wc.ret ?_
                      obtain rfl := Option.some.inj h
                      exact ⟨.inl rfl, by kernel_rfl⟩
                · refine Wc.condF h67 (by kernel_rfl) ?_
                  refine Wc.keep [] [] [] ⟨[], [], []⟩ (by kernel_rfl) ?_
                  refine Wc.skip ?_
                  refine Wc.seq ?_
                  refine Wc.region [] [6, 7] [] [] ⟨[(6, (.v (.int .i64 0), [])), (7, (.v (.int .i64 2), []))], [], []⟩ _ (by kernel_rfl) .nil ?_
                  refine Wc.ret ?_
                  obtain rfl := Option.some.inj h
                  exact ⟨.inl rfl, by kernel_rfl⟩
theorem cspec_l10Eval {k : Nat} {a55_ : List GTerm} {c56_ : GTerm} {b57_ : Int} {r : Int × Int} (h : pspec_l10Eval k a55_ c56_ b57_ = some r) : FnC Try.prog 55 [.sl (List.map GTerm.c a55_), .agg [.int .i64 c56_.gKind, .str c56_.gName, .int .i64 c56_.gNum, .sl (List.map GTerm.c c56_.gKids)], .int .i64 b57_] (.tup [.int .i64 r.1, .int .i64 r.2]) [] := (all_pspec_l10Eval k) h

/-- spec.Eval -/
def pspec_Eval (k : Nat) (e71_ : GBinds) (c72_ : GTerm) : Option (Int × Int) :=
  (pspec_l10Eval k e71_.gList c72_ 1).bind fun g73_ =>
  some (g73_.1, g73_.2)
theorem cspec_Eval {k : Nat} {e71_ : GBinds} {c72_ : GTerm} {r : Int × Int} (h : pspec_Eval k e71_ c72_ = some r) : FnC Try.prog 34 [.agg [.sl (List.map GTerm.c e71_.gList)], .agg [.int .i64 c72_.gKind, .str c72_.gName, .int .i64 c72_.gNum, .sl (List.map GTerm.c c72_.gKids)]] (.tup [.int .i64 r.1, .int .i64 r.2]) [] := by
  refine FnC.of Try.func34 (rfl : Try.f34.body = some _) (Nat.le_of_ble_eq_true (by kernel_rfl)) ?_
  intro w0 X0
  unfold pspec_Eval at h
  refine Wc.seq ?_
  refine Wc.region [] [2, 3] [2, 3] [] ⟨[(2, (.ptr 2 0, [])), (3, (.ptr 3 0, []))], [(2, ([.sl (List.map GTerm.c e71_.gList)], [])), (3, ([.int .i64 c72_.gKind, .str c72_.gName, .int .i64 c72_.gNum, .sl (List.map GTerm.c c72_.gKids)], []))], []⟩ _ (by kernel_rfl) .nil ?_
  refine Wc.seq ?_
  obtain ⟨g73_, h78, h⟩ := obind h
  refine Wc.region [((none, []), none), ((none, []), none), ((none, []), none), ((some (.tup [.int .i64 g73_.1, .int .i64 g73_.2]), []), none)] [4, 5] [] [] ⟨[(4, (.v (.int .i64 g73_.1), [])), (5, (.v (.int .i64 g73_.2), []))], [], []⟩ _ (by kernel_rfl) (.cons (cspec_l10Eval h78) .nil) ?_
  refine Wc.ret ?_
  obtain rfl := Option.some.inj h
  exact ⟨.inl rfl, by kernel_rfl⟩

/-- laws.toBinds -/
def plaws_toBinds (k : Nat) (e74_ : GBinds) : Option GBinds :=
  (plaws_toTermS k e74_.gList).bind fun a75_ =>
  some (GBinds.mk a75_)
theorem claws_toBinds {k : Nat} {e74_ : GBinds} {r : GBinds} (h : plaws_toBinds k e74_ = some r) : FnC Try.prog 35 [.agg [.sl (List.map GTerm.c e74_.gList)]] (.agg [.sl (List.map GTerm.c r.gList)]) [] := by
  refine FnC.of Try.func35 (rfl : Try.f35.body = some _) (Nat.le_of_ble_eq_true (by kernel_rfl)) ?_
  intro w0 X0
  unfold plaws_toBinds at h
  refine Wc.seq ?_
  refine Wc.region [] [1, 2] [1, 2] [] ⟨[(1, (.ptr 1 0, [])), (2, (.ptr 2 0, []))], [(1, ([.sl (List.map GTerm.c e74_.gList)], [])), (2, ([.sl (List.map GTerm.c [])], [(0, 48)]))], []⟩ _ (by kernel_rfl) .nil ?_
  refine Wc.seq ?_
  refine Wc.region [] [1, 2, 3] [1, 2, 3] [] ⟨[(1, (.ptr 1 0, [])), (2, (.ptr 2 0, [])), (3, (.ptr 3 0, []))], [(1, ([.sl (List.map GTerm.c e74_.gList)], [])), (2, ([.sl (List.map GTerm.c [])], [(0, 48)])), (3, ([.sl (List.map GTerm.c [])], [(0, 48)]))], []⟩ _ (by kernel_rfl) .nil ?_
  refine Wc.seq ?_
  obtain ⟨a75_, h79, h⟩ := obind h
  refine Wc.region [((none, []), none), ((none, []), none), ((some (.sl (List.map GTerm.c a75_)), []), none)] [2, 3] [2, 3] [] ⟨[(2, (.ptr 2 0, [])), (3, (.ptr 3 0, []))], [(2, ([.sl (List.map GTerm.c [])], [(0, 48)])), (3, ([.sl (List.map GTerm.c a75_)], []))], []⟩ _ (by kernel_rfl) (.cons (claws_toTermS h79) .nil) ?_
  refine Wc.seq ?_
  refine Wc.region [] [2] [2] [] ⟨[(2, (.ptr 2 0, []))], [(2, ([.sl (List.map GTerm.c a75_)], []))], []⟩ _ (by kernel_rfl) .nil ?_
  refine Wc.ret ?_
  obtain rfl := Option.some.inj h
  exact ⟨.inl rfl, by kernel_rfl⟩

/-- impl.within -/
def pimpl_within (k : Nat) (b76_ : Int) (b77_ : Int) (b78_ : Int) : Option Bool :=
  if (decide (b76_ ≥ b77_)) = true then
    some (decide (b76_ ≤ b78_))
  else
    some false
theorem cimpl_within {k : Nat} {b76_ : Int} {b77_ : Int} {b78_ : Int} {r : Bool} (h : pimpl_within k b76_ b77_ b78_ = some r) : FnC Try.prog 59 [.int .i64 b76_, .int .i64 b77_, .int .i64 b78_] (.bool r) [] := by
  refine FnC.of Try.func59 (rfl : Try.f59.body = some _) (Nat.le_of_ble_eq_true (by kernel_rfl)) ?_
  intro w0 X0
  unfold pimpl_within at h
  refine Wc.seq ?_
  refine Wc.region [] [0, 1, 2] [] [] ⟨[(0, (.v (.int .i64 b76_), [])), (1, (.v (.int .i64 b77_), [])), (2, (.v (.int .i64 b78_), []))], [], []⟩ _ (by kernel_rfl) .nil ?_
  refine Wc.seq ?_
  rcases oif h with ⟨h80, h⟩ | ⟨h80, h⟩
  · refine Wc.region [((none, []), none), ((none, []), none), ((none, []), none), ((none, []), some (.bool true))] [6] [] [] ⟨[(6, (.v (.bool (decide (b76_ ≤ b78_))), []))], [], []⟩ _ (by kernel_rfl) (.cons (congrArg AV.bool h80) .nil) ?_
    refine Wc.ret ?_
    obtain rfl := Option.some.inj h
    exact ⟨.inl rfl, by kernel_rfl⟩
  · refine Wc.region [((none, []), none), ((none, []), none), ((none, []), none), ((none, []), some (.bool false))] [6] [] [] ⟨[(6, (.v (.bool false), []))], [], []⟩ _ (by kernel_rfl) (.cons (congrArg AV.bool h80) .nil) ?_
    refine Wc.ret ?_
    obtain rfl := Option.some.inj h
    exact ⟨.inl rfl, by kernel_rfl⟩

def pimpl_walked_L1 (k : Nat) (a79_ : List GTerm) : Nat → Int → GTerm → Option (Out GTerm GTerm)
  | 0, _, _ => none
  | m + 1, b81_, c82_ =>
    if (decide (b81_ < 5000)) = true then
      if (c82_.gKind == 1) = true then
        (pimpl_within k c82_.gNum 0 (wr.i64 ((a79_.length : Int) - 1))).bind fun d84_ =>
        if d84_ = true then
          (at' a79_ c82_.gNum).bind fun c85_ =>
          if (c85_.gKind != 0) = true then
            (at' a79_ c82_.gNum).bind fun c86_ =>
            pimpl_walked_L1 k a79_ m (wr.i64 (b81_ + 1)) c86_
          else
            some (.done c82_)
        else
          some (.done c82_)
      else
        some (.done c82_)
    else
      some (.done c82_)
/-- impl.walked -/
def pimpl_walked (k : Nat) (a79_ : List GTerm) (c80_ : GTerm) : Option GTerm :=
  (pimpl_walked_L1 k a79_ k 0 c80_).bind fun out1 => match out1 with
  | .ret r => some r
  | .done c83_ =>
    some c83_
theorem cimpl_walked {k : Nat} {a79_ : List GTerm} {c80_ : GTerm} {r : GTerm} (h : pimpl_walked k a79_ c80_ = some r) : FnC Try.prog 72 [.sl (List.map GTerm.c a79_), .agg [.int .i64 c80_.gKind, .str c80_.gName, .int .i64 c80_.gNum, .sl (List.map GTerm.c c80_.gKids)]] (.agg [.int .i64 r.gKind, .str r.gName, .int .i64 r.gNum, .sl (List.map GTerm.c r.gKids)]) [] := by
  refine FnC.of Try.func72 (rfl : Try.f72.body = some _) (Nat.le_of_ble_eq_true (by kernel_rfl)) ?_
  intro w0 X0
  unfold pimpl_walked at h
  refine Wc.seq ?_
  refine Wc.region [] [0, 3, 4] [3, 4] [] ⟨[(0, (.v (.sl (List.map GTerm.c a79_)), [])), (3, (.ptr 3 0, [])), (4, (.ptr 4 0, []))], [(3, ([.int .i64 c80_.gKind, .str c80_.gName, .int .i64 c80_.gNum, .sl (List.map GTerm.c c80_.gKids)], [])), (4, ([.int .i64 0, .str (bs []), .int .i64 0, .sl (List.map GTerm.c [])], [(3, 48)]))], []⟩ _ (by kernel_rfl) .nil ?_
  refine Wc.seq ?_
  refine Wc.seq ?_
  refine Wc.region [] [0, 3, 4, 5] [3, 4] [] ⟨[(0, (.v (.sl (List.map GTerm.c a79_)), [])), (3, (.ptr 3 0, [])), (4, (.ptr 4 0, [])), (5, (.v (.int .i64 0), []))], [(3, ([.int .i64 c80_.gKind, .str c80_.gName, .int .i64 c80_.gNum, .sl (List.map GTerm.c c80_.gKids)], [])), (4, ([.int .i64 0, .str (bs []), .int .i64 0, .sl (List.map GTerm.c [])], [(3, 48)]))], []⟩ _ (by kernel_rfl) .nil ?_
  obtain ⟨out1, h81, h⟩ := obind h
  refine Wc.lastJ (fun st => ∃ (c83_ : GTerm), out1 = .done c83_ ∧ st = ⟨[(3, (.ptr 3 0, [])), (4, (.ptr 4 0, []))], [(3, ([.int .i64 c83_.gKind, .str c83_.gName, .int .i64 c83_.gNum, .sl (List.map GTerm.c c83_.gKids)], [])), (4, ([.int .i64 0, .str (bs []), .int .i64 0, .sl (List.map GTerm.c [])], [(3, 48)]))], []⟩) ?_ ?_
  · refine Wc.block ?_
    refine Wc.loop (fun m st => ∃ (b81_ : Int) (c82_ : GTerm), st = ⟨[(0, (.v (.sl (List.map GTerm.c a79_)), [])), (3, (.ptr 3 0, [])), (4, (.ptr 4 0, [])), (5, (.v (.int .i64 b81_), []))], [(3, ([.int .i64 c82_.gKind, .str c82_.gName, .int .i64 c82_.gNum, .sl (List.map GTerm.c c82_.gKids)], [])), (4, ([.int .i64 0, .str (bs []), .int .i64 0, .sl (List.map GTerm.c [])], [(3, 48)]))], []⟩ ∧ pimpl_walked_L1 k a79_ m b81_ c82_ = some out1) ?_ k ⟨_, _, rfl, h81⟩
    rintro m st ⟨b81_, c82_, rfl, h81⟩
    cases m with
    | zero => exact (onone h81).elim
    | succ m =>
      refine Wc.seq ?_
      refine Wc.seq ?_
      rcases oif h81 with ⟨h82, h81⟩ | ⟨h82, h81⟩
      · rcases oif h81 with ⟨h83, h81⟩ | ⟨h83, h81⟩
        · obtain ⟨d84_, h84, h81⟩ := obind h81
          rcases oif h81 with ⟨h85, h81⟩ | ⟨h85, h81⟩
          · obtain ⟨c85_, h86, h81⟩ := obind h81
            refine Wc.region [((none, []), none), ((none, []), none), ((none, []), some (.bool true)), ((none, []), none), ((none, []), none), ((none, []), none), ((none, []), none), ((none, []), some (.bool true)), ((none, []), none), ((none, []), none), ((none, []), none), ((some (.int .i64 (a79_.length : Int)), []), none), ((none, []), none), ((some (.bool d84_), []), none), ((none, []), none), ((none, []), some (.bool true)), ((none, []), none), ((none, []), none), ((none, []), none), ((some (.vptr [.int .i64 c85_.gKind, .str c85_.gName, .int .i64 c85_.gNum, .sl (List.map GTerm.c c85_.gKids)]), []), none)] [0, 3, 4, 5, 29] [3, 4] [] ⟨[(0, (.v (.sl (List.map GTerm.c a79_)), [])), (3, (.ptr 3 0, [])), (4, (.ptr 4 0, [])), (5, (.v (.int .i64 b81_), [])), (29, (.v (.bool (c85_.gKind != 0)), []))], [(3, ([.int .i64 c82_.gKind, .str c82_.gName, .int .i64 c82_.gNum, .sl (List.map GTerm.c c82_.gKids)], [])), (4, ([.int .i64 0, .str (bs []), .int .i64 0, .sl (List.map GTerm.c [])], [(3, 48)]))], []⟩ _ (by kernel_rfl) (.cons (congrArg AV.bool h82) (.cons (congrArg AV.bool h83) (.cons (len_obl GTerm.c a79_) (.cons (cimpl_within h84) (.cons (congrArg AV.bool h85) (.cons (at_obl (c := GTerm.c) (GTerm.c_eq c85_) GTerm.c_len h86) (.cons (len_ok 1 [.int .i64 c85_.gKind, .str c85_.gName, .int .i64 c85_.gNum, .sl (List.map GTerm.c c85_.gKids)]) .nil))))))) ?_
            rcases oif h81 with ⟨h87, h81⟩ | ⟨h87, h81⟩
            · refine Wc.condT h87 (by kernel_rfl) ?_
              refine Wc.keep [0, 3, 4, 5] [3, 4] [] ⟨[(0, (.v (.sl (List.map GTerm.c a79_)), [])), (3, (.ptr 3 0, [])), (4, (.ptr 4 0, [])), (5, (.v (.int .i64 b81_), []))], [(3, ([.int .i64 c82_.gKind, .str c82_.gName, .int .i64 c82_.gNum, .sl (List.map GTerm.c c82_.gKids)], [])), (4, ([.int .i64 0, .str (bs []), .int .i64 0, .sl (List.map GTerm.c [])], [(3, 48)]))], []⟩ (by kernel_rfl) ?_
              refine Wc.skip ?_
              refine Wc.seq ?_
              refine Wc.block ?_
              obtain ⟨c86_, h88, h81⟩ := obind h81
              refine Wc.region [((none, []), none), ((none, []), none), ((none, []), none), ((some (.vptr [.int .i64 c86_.gKind, .str c86_.gName, .int .i64 c86_.gNum, .sl (List.map GTerm.c c86_.gKids)]), []), none)] [0, 3, 4, 5] [3, 4] [] ⟨[(0, (.v (.sl (List.map GTerm.c a79_)), [])), (3, (.ptr 3 0, [])), (4, (.ptr 4 0, [])), (5, (.v (.int .i64 b81_), []))], [(3, ([.int .i64 c86_.gKind, .str c86_.gName, .int .i64 c86_.gNum, .sl (List.map GTerm.c c86_.gKids)], [])), (4, ([.int .i64 0, .str (bs []), .int .i64 0, .sl (List.map GTerm.c [])], [(3, 48)]))], []⟩ _ (by kernel_rfl) (.cons (at_obl (c := GTerm.c) (GTerm.c_eq c86_) GTerm.c_len h88) (.cons (len_ok 4 [.int .i64 c86_.gKind, .str c86_.gName, .int .i64 c86_.gNum, .sl (List.map GTerm.c c86_.gKids)]) .nil)) ?_
              refine Wc.region [] [0, 3, 4, 5] [3, 4] [] ⟨[(0, (.v (.sl (List.map GTerm.c a79_)), [])), (3, (.ptr 3 0, [])), (4, (.ptr 4 0, [])), (5, (.v (.int .i64 (wr.i64 (b81_ + 1))), []))], [(3, ([.int .i64 c86_.gKind, .str c86_.gName, .int .i64 c86_.gNum, .sl (List.map GTerm.c c86_.gKids)], [])), (4, ([.int .i64 0, .str (bs []), .int .i64 0, .sl (List.map GTerm.c [])], [(3, 48)]))], []⟩ _ (by kernel_rfl) .nil ?_
              exact ⟨_, Nat.lt_succ_self _, _, _, rfl, h81⟩
            · refine Wc.condF h87 (by kernel_rfl) ?_
              refine Wc.keep [3, 4] [3, 4] [] ⟨[(3, (.ptr 3 0, [])), (4, (.ptr 4 0, []))], [(3, ([.int .i64 c82_.gKind, .str c82_.gName, .int .i64 c82_.gNum, .sl (List.map GTerm.c c82_.gKids)], [])), (4, ([.int .i64 0, .str (bs []), .int .i64 0, .sl (List.map GTerm.c [])], [(3, 48)]))], []⟩ (by kernel_rfl) ?_
              refine Wc.exit ?_
              obtain rfl := Option.some.inj h81
              exact ⟨_, rfl, rfl⟩
          · refine Wc.region [((none, []), none), ((none, []), none), ((none, []), some (.bool true)), ((none, []), none), ((none, []), none), ((none, []), none), ((none, []), none), ((none, []), some (.bool true)), ((none, []), none), ((none, []), none), ((none, []), none), ((some (.int .i64 (a79_.length : Int)), []), none), ((none, []), none), ((some (.bool d84_), []), none), ((none, []), none), ((none, []), some (.bool false))] [0, 3, 4, 5, 29] [3, 4] [] ⟨[(0, (.v (.sl (List.map GTerm.c a79_)), [])), (3, (.ptr 3 0, [])), (4, (.ptr 4 0, [])), (5, (.v (.int .i64 b81_), [])), (29, (.v (.bool false), []))], [(3, ([.int .i64 c82_.gKind, .str c82_.gName, .int .i64 c82_.gNum, .sl (List.map GTerm.c c82_.gKids)], [])), (4, ([.int .i64 0, .str (bs []), .int .i64 0, .sl (List.map GTerm.c [])], [(3, 48)]))], []⟩ _ (by kernel_rfl) (.cons (congrArg AV.bool h82) (.cons (congrArg AV.bool h83) (.cons (len_obl GTerm.c a79_) (.cons (cimpl_within h84) (.cons (congrArg AV.bool h85) .nil))))) ?_
            refine Wc.condF rfl (by kernel_rfl) ?_
            refine Wc.keep [3, 4] [3, 4] [] ⟨[(3, (.ptr 3 0, [])), (4, (.ptr 4 0, []))], [(3, ([.int .i64 c82_.gKind, .str c82_.gName, .int .i64 c82_.gNum, .sl (List.map GTerm.c c82_.gKids)], [])), (4, ([.int .i64 0, .str (bs []), .int .i64 0, .sl (List.map GTerm.c [])], [(3, 48)]))], []⟩ (by kernel_rfl) ?_
            refine Wc.exit ?_
            obtain rfl := Option.some.inj h81
            exact ⟨_, rfl, rfl⟩
        · refine Wc.region [((none, []), none), ((none, []), none), ((none, []), some (.bool true)), ((none, []), none), ((none, []), none), ((none, []), none), ((none, []), none), ((none, []), some (.bool false))] [0, 3, 4, 5, 29] [3, 4] [] ⟨[(0, (.v (.sl (List.map GTerm.c a79_)), [])), (3, (.ptr 3 0, [])), (4, (.ptr 4 0, [])), (5, (.v (.int .i64 b81_), [])), (29, (.v (.bool false), []))], [(3, ([.int .i64 c82_.gKind, .str c82_.gName, .int .i64 c82_.gNum, .sl (List.map GTerm.c c82_.gKids)], [])), (4, ([.int .i64 0, .str (bs []), .int .i64 0, .sl (List.map GTerm.c [])], [(3, 48)]))], []⟩ _ (by kernel_rfl) (.cons (congrArg AV.bool h82) (.cons (congrArg AV.bool h83) .nil)) ?_
          refine Wc.condF rfl (by kernel_rfl) ?_
          refine Wc.keep [3, 4] [3, 4] [] ⟨[(3, (.ptr 3 0, [])), (4, (.ptr 4 0, []))], [(3, ([.int .i64 c82_.gKind, .str c82_.gName, .int .i64 c82_.gNum, .sl (List.map GTerm.c c82_.gKids)], [])), (4, ([.int .i64 0, .str (bs []), .int .i64 0, .sl (List.map GTerm.c [])], [(3, 48)]))], []⟩ (by kernel_rfl) ?_
          refine Wc.exit ?_
          obtain rfl := Option.some.inj h81
          exact ⟨_, rfl, rfl⟩
      · refine Wc.region [((none, []), none), ((none, []), none), ((none, []), some (.bool false))] [0, 3, 4, 5, 29] [3, 4] [] ⟨[(0, (.v (.sl (List.map GTerm.c a79_)), [])), (3, (.ptr 3 0, [])), (4, (.ptr 4 0, [])), (5, (.v (.int .i64 b81_), [])), (29, (.v (.bool false), []))], [(3, ([.int .i64 c82_.gKind, .str c82_.gName, .int .i64 c82_.gNum, .sl (List.map GTerm.c c82_.gKids)], [])), (4, ([.int .i64 0, .str (bs []), .int .i64 0, .sl (List.map GTerm.c [])], [(3, 48)]))], []⟩ _ (by kernel_rfl) (.cons (congrArg AV.bool h82) .nil) ?_
        refine Wc.condF rfl (by kernel_rfl) ?_
        refine Wc.keep [3, 4] [3, 4] [] ⟨[(3, (.ptr 3 0, [])), (4, (.ptr 4 0, []))], [(3, ([.int .i64 c82_.gKind, .str c82_.gName, .int .i64 c82_.gNum, .sl (List.map GTerm.c c82_.gKids)], [])), (4, ([.int .i64 0, .str (bs []), .int .i64 0, .sl (List.map GTerm.c [])], [(3, 48)]))], []⟩ (by kernel_rfl) ?_
        refine Wc.exit ?_
        obtain rfl := Option.some.inj h81
        exact ⟨_, rfl, rfl⟩
  · rintro st ⟨c83_, rfl, rfl⟩
    refine Wc.seq ?_
    refine Wc.region [] [4] [4] [] ⟨[(4, (.ptr 4 0, []))], [(4, ([.int .i64 c83_.gKind, .str c83_.gName, .int .i64 c83_.gNum, .sl (List.map GTerm.c c83_.gKids)], []))], []⟩ _ (by kernel_rfl) .nil ?_
    refine Wc.ret ?_
    obtain rfl := Option.some.inj h
    exact ⟨.inl rfl, by kernel_rfl⟩

/-- impl.isStruct -/
def pimpl_isStruct (k : Nat) (c87_ : GTerm) (f88_ : ByteArray) (b89_ : Int) : Option Bool :=
  if (c87_.gKind == 4) = true then
    if (sEq c87_.gName f88_) = true then
      some ((c87_.gKids.length : Int) == b89_)
    else
      some false
  else
    some false
theorem cimpl_isStruct {k : Nat} {c87_ : GTerm} {f88_ : ByteArray} {b89_ : Int} {r : Bool} (h : pimpl_isStruct k c87_ f88_ b89_ = some r) : FnC Try.prog 73 [.agg [.int .i64 c87_.gKind, .str c87_.gName, .int .i64 c87_.gNum, .sl (List.map GTerm.c c87_.gKids)], .str f88_, .int .i64 b89_] (.bool r) [] := by
  refine FnC.of Try.func73 (rfl : Try.f73.body = some _) (Nat.le_of_ble_eq_true (by kernel_rfl)) ?_
  intro w0 X0
  unfold pimpl_isStruct at h
  refine Wc.seq ?_
  refine Wc.region [] [1, 2, 3] [3] [] ⟨[(1, (.v (.str f88_), [])), (2, (.v (.int .i64 b89_), [])), (3, (.ptr 3 0, []))], [(3, ([.int .i64 c87_.gKind, .str c87_.gName, .int .i64 c87_.gNum, .sl (List.map GTerm.c c87_.gKids)], []))], []⟩ _ (by kernel_rfl) .nil ?_
  refine Wc.seq ?_
  rcases oif h with ⟨h89, h⟩ | ⟨h89, h⟩
  · rcases oif h with ⟨h90, h⟩ | ⟨h90, h⟩
    · refine Wc.region [((none, []), none), ((none, []), none), ((none, []), none), ((none, []), some (.bool true)), ((none, []), none), ((none, []), none), ((none, []), none), ((none, []), none), ((none, []), none), ((none, []), some (.bool true)), ((none, []), none), ((none, []), none), ((some (.int .i64 (c87_.gKids.length : Int)), []), none)] [6] [] [] ⟨[(6, (.v (.bool ((c87_.gKids.length : Int) == b89_)), []))], [], []⟩ _ (by kernel_rfl) (.cons (congrArg AV.bool h89) (.cons (congrArg AV.bool h90) (.cons (len_obl GTerm.c c87_.gKids) .nil))) ?_
      refine Wc.ret ?_
      obtain rfl := Option.some.inj h
      exact ⟨.inl rfl, by kernel_rfl⟩
    · refine Wc.region [((none, []), none), ((none, []), none), ((none, []), none), ((none, []), some (.bool true)), ((none, []), none), ((none, []), none), ((none, []), none), ((none, []), none), ((none, []), none), ((none, []), some (.bool false))] [6] [] [] ⟨[(6, (.v (.bool false), []))], [], []⟩ _ (by kernel_rfl) (.cons (congrArg AV.bool h89) (.cons (congrArg AV.bool h90) .nil)) ?_
      refine Wc.ret ?_
      obtain rfl := Option.some.inj h
      exact ⟨.inl rfl, by kernel_rfl⟩
  · refine Wc.region [((none, []), none), ((none, []), none), ((none, []), none), ((none, []), some (.bool false))] [6] [] [] ⟨[(6, (.v (.bool false), []))], [], []⟩ _ (by kernel_rfl) (.cons (congrArg AV.bool h89) .nil) ?_
    refine Wc.ret ?_
    obtain rfl := Option.some.inj h
    exact ⟨.inl rfl, by kernel_rfl⟩

def pimpl_eval_J4 (k : Nat) (rimpl_eval : (List GTerm) → GTerm → Int → Option (Int × Int)) (b99_ : Int) : Option (Int × Int) :=
  (pimpl_within k b99_ (-999999999) 999999999).bind fun d100_ =>
  if (!d100_) = true then
    some (0, 3)
  else
    some (b99_, 0)
def pimpl_eval_J3 (k : Nat) (rimpl_eval : (List GTerm) → GTerm → Int → Option (Int × Int)) (d95_ : Bool) (g97_ : Int × Int) (c93_ : GTerm) (b98_ : Int) : Option (Int × Int) :=
  if (!d95_) = true then
    pimpl_eval_J4 k rimpl_eval (wr.i64 (0 - g97_.1))
  else
    if (sEq c93_.gName (bs [43])) = true then
      pimpl_eval_J4 k rimpl_eval (wr.i64 (g97_.1 + b98_))
    else
      if (sEq c93_.gName (bs [45])) = true then
        pimpl_eval_J4 k rimpl_eval (wr.i64 (g97_.1 - b98_))
      else
        if (sEq c93_.gName (bs [42])) = true then
          pimpl_eval_J4 k rimpl_eval (wr.i64 (g97_.1 * b98_))
        else
          if (b98_ == 0) = true then
            some (0, 4)
          else
            if b98_ ≠ 0 then
              pimpl_eval_J4 k rimpl_eval (wr.i64 (Int.tdiv g97_.1 b98_))
            else none
def pimpl_eval_J2 (k : Nat) (rimpl_eval : (List GTerm) → GTerm → Int → Option (Int × Int)) (c93_ : GTerm) (a90_ : List GTerm) (b92_ : Int) (d95_ : Bool) : Option (Int × Int) :=
  (at' c93_.gKids 0).bind fun c96_ =>
  (rimpl_eval a90_ c96_ (wr.i64 (b92_ + 1))).bind fun g97_ =>
  if (g97_.2 != 0) = true then
    some (0, g97_.2)
  else
    if d95_ = true then
      (at' c93_.gKids 1).bind fun c101_ =>
      (rimpl_eval a90_ c101_ (wr.i64 (b92_ + 1))).bind fun g102_ =>
      if (g102_.2 != 0) = true then
        some (0, g102_.2)
      else
        pimpl_eval_J3 k rimpl_eval d95_ g97_ c93_ g102_.1
    else
      pimpl_eval_J3 k rimpl_eval d95_ g97_ c93_ 0
def pimpl_eval_J1 (k : Nat) (rimpl_eval : (List GTerm) → GTerm → Int → Option (Int × Int)) (c93_ : GTerm) (a90_ : List GTerm) (b92_ : Int) (d95_ : Bool) : Option (Int × Int) :=
  if (!d95_) = true then
    (pimpl_isStruct k c93_ (bs [45]) 1).bind fun d103_ =>
    if (!d103_) = true then
      some (0, 2)
    else
      pimpl_eval_J2 k rimpl_eval c93_ a90_ b92_ d95_
  else
    pimpl_eval_J2 k rimpl_eval c93_ a90_ b92_ d95_
mutual
/-- impl.eval -/
def pimpl_eval : Nat → (List GTerm) → GTerm → Int → Option (Int × Int)
  | 0, _, _, _ => none
  | k + 1, a90_, c91_, b92_ =>
    (pimpl_walked k a90_ c91_).bind fun c93_ =>
    if (c93_.gKind == 1) = true then
      some (0, 1)
    else
      if (c93_.gKind == 3) = true then
        (pimpl_within k c93_.gNum (-999999999) 999999999).bind fun d94_ =>
        if (!d94_) = true then
          some (0, 3)
        else
          some (c93_.gNum, 0)
      else
        if (c93_.gKind != 4) = true then
          some (0, 2)
        else
          if (decide (b92_ > 40)) = true then
            some (0, 2)
          else
            if ((c93_.gKids.length : Int) == 2) = true then
              if (sEq c93_.gName (bs [43])) = true then
                pimpl_eval_J1 k (pimpl_eval k) c93_ a90_ b92_ true
              else
                if (sEq c93_.gName (bs [45])) = true then
                  pimpl_eval_J1 k (pimpl_eval k) c93_ a90_ b92_ true
                else
                  if (sEq c93_.gName (bs [42])) = true then
                    pimpl_eval_J1 k (pimpl_eval k) c93_ a90_ b92_ true
                  else
                    pimpl_eval_J1 k (pimpl_eval k) c93_ a90_ b92_ (sEq c93_.gName (bs [47, 47]))
            else
              pimpl_eval_J1 k (pimpl_eval k) c93_ a90_ b92_ false
end
theorem all_pimpl_eval : ∀ k : Nat, (∀ {a90_ : List GTerm} {c91_ : GTerm} {b92_ : Int} {r : Int × Int}, pimpl_eval k a90_ c91_ b92_ = some r → FnC Try.prog 56 [.sl (List.map GTerm.c a90_), .agg [.int .i64 c91_.gKind, .str c91_.gName, .int .i64 c91_.gNum, .sl (List.map GTerm.c c91_.gKids)], .int .i64 b92_] (.tup [.int .i64 r.1, .int .i64 r.2]) []) := by
  intro k
  induction k with
  | zero =>
    · intro a90_ c91_ b92_ r h
      exact (onone (by rw [pimpl_eval] at h; exact h)).elim
  | succ k ih =>
    have ih_pimpl_eval := @ih
    · intro a90_ c91_ b92_ r h
      rw [pimpl_eval] at h
      refine FnC.of Try.func56 (rfl : Try.f56.body = some _) (Nat.le_of_ble_eq_true (by kernel_rfl)) ?_
      intro w0 X0
      refine Wc.seq ?_
      refine Wc.region [] [0, 2, 4] [4] [] ⟨[(0, (.v (.sl (List.map GTerm.c a90_)), [])), (2, (.v (.int .i64 b92_), [])), (4, (.ptr 4 0, []))], [(4, ([.int .i64 c91_.gKind, .str c91_.gName, .int .i64 c91_.gNum, .sl (List.map GTerm.c c91_.gKids)], []))], []⟩ _ (by kernel_rfl) .nil ?_
      refine Wc.seq ?_
      obtain ⟨c93_, h91, h⟩ := obind h
      refine Wc.region [((none, []), none), ((none, []), none), ((some (.agg [.int .i64 c93_.gKind, .str c93_.gName, .int .i64 c93_.gNum, .sl (List.map GTerm.c c93_.gKids)]), []), none)] [0, 2, 4] [4] [] ⟨[(0, (.v (.sl (List.map GTerm.c a90_)), [])), (2, (.v (.int .i64 b92_), [])), (4, (.ptr 4 0, []))], [(4, ([.int .i64 c93_.gKind, .str c93_.gName, .int .i64 c93_.gNum, .sl (List.map GTerm.c c93_.gKids)], []))], []⟩ _ (by kernel_rfl) (.cons (cimpl_walked h91) .nil) ?_
      refine Wc.seq ?_
      refine Wc.block ?_
      refine Wc.seq ?_
      refine Wc.region [] [0, 2, 4, 16] [4] [] ⟨[(0, (.v (.sl (List.map GTerm.c a90_)), [])), (2, (.v (.int .i64 b92_), [])), (4, (.ptr 4 0, [])), (16, (.v (.bool (c93_.gKind == 1)), []))], [(4, ([.int .i64 c93_.gKind, .str c93_.gName, .int .i64 c93_.gNum, .sl (List.map GTerm.c c93_.gKids)], []))], []⟩ _ (by kernel_rfl) .nil ?_
      rcases oif h with ⟨h92, h⟩ | ⟨h92, h⟩
      · refine Wc.condT h92 (by kernel_rfl) ?_
        refine Wc.seq ?_
        refine Wc.region [] [6, 7] [] [] ⟨[(6, (.v (.int .i64 0), [])), (7, (.v (.int .i64 1), []))], [], []⟩ _ (by kernel_rfl) .nil ?_
        refine Wc.ret ?_
        obtain rfl := Option.some.inj h
        exact ⟨.inl rfl, by kernel_rfl⟩
      · refine Wc.condF h92 (by kernel_rfl) ?_
        refine Wc.seq ?_
        refine Wc.region [] [0, 2, 4, 20] [4] [] ⟨[(0, (.v (.sl (List.map GTerm.c a90_)), [])), (2, (.v (.int .i64 b92_), [])), (4, (.ptr 4 0, [])), (20, (.v (.bool (c93_.gKind == 3)), []))], [(4, ([.int .i64 c93_.gKind, .str c93_.gName, .int .i64 c93_.gNum, .sl (List.map GTerm.c c93_.gKids)], []))], []⟩ _ (by kernel_rfl) .nil ?_
        rcases oif h with ⟨h93, h⟩ | ⟨h93, h⟩
        · refine Wc.condT h93 (by kernel_rfl) ?_
          refine Wc.seq ?_
          refine Wc.seq ?_
          obtain ⟨d94_, h94, h⟩ := obind h
          refine Wc.region [((none, []), none), ((none, []), none), ((some (.bool d94_), []), none)] [4, 27] [4] [] ⟨[(4, (.ptr 4 0, [])), (27, (.v (.bool (!d94_)), []))], [(4, ([.int .i64 c93_.gKind, .str c93_.gName, .int .i64 c93_.gNum, .sl (List.map GTerm.c c93_.gKids)], []))], []⟩ _ (by kernel_rfl) (.cons (cimpl_within h94) .nil) ?_
          rcases oif h with ⟨h95, h⟩ | ⟨h95, h⟩
          · refine Wc.condT h95 (by kernel_rfl) ?_
            refine Wc.seq ?_
            refine Wc.region [] [6, 7] [] [] ⟨[(6, (.v (.int .i64 0), [])), (7, (.v (.int .i64 3), []))], [], []⟩ _ (by kernel_rfl) .nil ?_
            refine Wc.ret ?_
            obtain rfl := Option.some.inj h
            exact ⟨.inl rfl, by kernel_rfl⟩
          · refine Wc.condF h95 (by kernel_rfl) ?_
            refine Wc.keep [4] [4] [] ⟨[(4, (.ptr 4 0, []))], [(4, ([.int .i64 c93_.gKind, .str c93_.gName, .int .i64 c93_.gNum, .sl (List.map GTerm.c c93_.gKids)], []))], []⟩ (by kernel_rfl) ?_
            refine Wc.skip ?_
            refine Wc.seq ?_
            refine Wc.region [] [6, 7] [] [] ⟨[(6, (.v (.int .i64 c93_.gNum), [])), (7, (.v (.int .i64 0), []))], [], []⟩ _ (by kernel_rfl) .nil ?_
            refine Wc.ret ?_
            obtain rfl := Option.some.inj h
            exact ⟨.inl rfl, by kernel_rfl⟩
        · refine Wc.condF h93 (by kernel_rfl) ?_
          refine Wc.seq ?_
          rcases oif h with ⟨h96, h⟩ | ⟨h96, h⟩
          · refine Wc.region [((none, []), none), ((none, []), none), ((none, []), none), ((none, []), some (.bool true))] [0, 2, 4, 30] [4] [] ⟨[(0, (.v (.sl (List.map GTerm.c a90_)), [])), (2, (.v (.int .i64 b92_), [])), (4, (.ptr 4 0, [])), (30, (.v (.bool true), []))], [(4, ([.int .i64 c93_.gKind, .str c93_.gName, .int .i64 c93_.gNum, .sl (List.map GTerm.c c93_.gKids)], []))], []⟩ _ (by kernel_rfl) (.cons (congrArg AV.bool h96) .nil) ?_
            refine Wc.condT rfl (by kernel_rfl) ?_
            refine Wc.seq ?_
            refine Wc.region [] [6, 7] [] [] ⟨[(6, (.v (.int .i64 0), [])), (7, (.v (.int .i64 2), []))], [], []⟩ _ (by kernel_rfl) .nil ?_
            refine Wc.ret ?_
            obtain rfl := Option.some.inj h
            exact ⟨.inl rfl, by kernel_rfl⟩
          · refine Wc.region [((none, []), none), ((none, []), none), ((none, []), none), ((none, []), some (.bool false))] [0, 2, 4, 30] [4] [] ⟨[(0, (.v (.sl (List.map GTerm.c a90_)), [])), (2, (.v (.int .i64 b92_), [])), (4, (.ptr 4 0, [])), (30, (.v (.bool (decide (b92_ > 40))), []))], [(4, ([.int .i64 c93_.gKind, .str c93_.gName, .int .i64 c93_.gNum, .sl (List.map GTerm.c c93_.gKids)], []))], []⟩ _ (by kernel_rfl) (.cons (congrArg AV.bool h96) .nil) ?_
            rcases oif h with ⟨h97, h⟩ | ⟨h97, h⟩
            · refine Wc.condT h97 (by kernel_rfl) ?_
              refine Wc.seq ?_
              refine Wc.region [] [6, 7] [] [] ⟨[(6, (.v (.int .i64 0), [])), (7, (.v (.int .i64 2), []))], [], []⟩ _ (by kernel_rfl) .nil ?_
              refine Wc.ret ?_
              obtain rfl := Option.some.inj h
              exact ⟨.inl rfl, by kernel_rfl⟩
            · refine Wc.condF h97 (by kernel_rfl) ?_
              refine Wc.keep [0, 2, 4] [4] [] ⟨[(0, (.v (.sl (List.map GTerm.c a90_)), [])), (2, (.v (.int .i64 b92_), [])), (4, (.ptr 4 0, []))], [(4, ([.int .i64 c93_.gKind, .str c93_.gName, .int .i64 c93_.gNum, .sl (List.map GTerm.c c93_.gKids)], []))], []⟩ (by kernel_rfl) ?_
              refine Wc.skip ?_
              refine Wc.seqJ (fun st => ∃ (d95_ : Bool), st = ⟨[(0, (.v (.sl (List.map GTerm.c a90_)), [])), (2, (.v (.int .i64 b92_), [])), (4, (.ptr 4 0, [])), (8, (.v (.bool d95_), []))], [(4, ([.int .i64 c93_.gKind, .str c93_.gName, .int .i64 c93_.gNum, .sl (List.map GTerm.c c93_.gKids)], []))], []⟩ ∧ pimpl_eval_J1 k (pimpl_eval k) c93_ a90_ b92_ d95_ = some r) ?_ ?_
              · rcases oif h with ⟨h116, h⟩ | ⟨h116, h⟩
                · rcases oif h with ⟨h117, h⟩ | ⟨h117, h⟩
                  · refine Wc.region [((none, []), none), ((none, []), none), ((some (.int .i64 (c93_.gKids.length : Int)), []), none), ((none, []), none), ((none, []), some (.bool true)), ((none, []), none), ((none, []), none), ((none, []), none), ((none, []), some (.bool true))] [0, 2, 4, 8] [4] [] ⟨[(0, (.v (.sl (List.map GTerm.c a90_)), [])), (2, (.v (.int .i64 b92_), [])), (4, (.ptr 4 0, [])), (8, (.v (.bool true), []))], [(4, ([.int .i64 c93_.gKind, .str c93_.gName, .int .i64 c93_.gNum, .sl (List.map GTerm.c c93_.gKids)], []))], []⟩ _ (by kernel_rfl) (.cons (len_obl GTerm.c c93_.gKids) (.cons (congrArg AV.bool h116) (.cons (congrArg AV.bool h117) .nil))) ?_
                    exact ⟨_, rfl, h⟩
                  · rcases oif h with ⟨h118, h⟩ | ⟨h118, h⟩
                    · refine Wc.region [((none, []), none), ((none, []), none), ((some (.int .i64 (c93_.gKids.length : Int)), []), none), ((none, []), none), ((none, []), some (.bool true)), ((none, []), none), ((none, []), none), ((none, []), none), ((none, []), some (.bool false)), ((none, []), none), ((none, []), none), ((none, []), none), ((none, []), none), ((none, []), some (.bool true))] [0, 2, 4, 8] [4] [] ⟨[(0, (.v (.sl (List.map GTerm.c a90_)), [])), (2, (.v (.int .i64 b92_), [])), (4, (.ptr 4 0, [])), (8, (.v (.bool true), []))], [(4, ([.int .i64 c93_.gKind, .str c93_.gName, .int .i64 c93_.gNum, .sl (List.map GTerm.c c93_.gKids)], []))], []⟩ _ (by kernel_rfl) (.cons (len_obl GTerm.c c93_.gKids) (.cons (congrArg AV.bool h116) (.cons (congrArg AV.bool h117) (.cons (congrArg AV.bool h118) .nil)))) ?_
                      exact ⟨_, rfl, h⟩
                    · rcases oif h with ⟨h119, h⟩ | ⟨h119, h⟩
                      · refine Wc.region [((none, []), none), ((none, []), none), ((some (.int .i64 (c93_.gKids.length : Int)), []), none), ((none, []), none), ((none, []), some (.bool true)), ((none, []), none), ((none, []), none), ((none, []), none), ((none, []), some (.bool false)), ((none, []), none), ((none, []), none), ((none, []), none), ((none, []), none), ((none, []), some (.bool false)), ((none, []), none), ((none, []), none), ((none, []), none), ((none, []), none), ((none, []), some (.bool true))] [0, 2, 4, 8] [4] [] ⟨[(0, (.v (.sl (List.map GTerm.c a90_)), [])), (2, (.v (.int .i64 b92_), [])), (4, (.ptr 4 0, [])), (8, (.v (.bool true), []))], [(4, ([.int .i64 c93_.gKind, .str c93_.gName, .int .i64 c93_.gNum, .sl (List.map GTerm.c c93_.gKids)], []))], []⟩ _ (by kernel_rfl) (.cons (len_obl GTerm.c c93_.gKids) (.cons (congrArg AV.bool h116) (.cons (congrArg AV.bool h117) (.cons (congrArg AV.bool h118) (.cons (congrArg AV.bool h119) .nil))))) ?_
                        exact ⟨_, rfl, h⟩
                      · refine Wc.region [((none, []), none), ((none, []), none), ((some (.int .i64 (c93_.gKids.length : Int)), []), none), ((none, []), none), ((none, []), some (.bool true)), ((none, []), none), ((none, []), none), ((none, []), none), ((none, []), some (.bool false)), ((none, []), none), ((none, []), none), ((none, []), none), ((none, []), none), ((none, []), some (.bool false)), ((none, []), none), ((none, []), none), ((none, []), none), ((none, []), none), ((none, []), some (.bool false))] [0, 2, 4, 8] [4] [] ⟨[(0, (.v (.sl (List.map GTerm.c a90_)), [])), (2, (.v (.int .i64 b92_), [])), (4, (.ptr 4 0, [])), (8, (.v (.bool (sEq c93_.gName (bs [47, 47]))), []))], [(4, ([.int .i64 c93_.gKind, .str c93_.gName, .int .i64 c93_.gNum, .sl (List.map GTerm.c c93_.gKids)], []))], []⟩ _ (by kernel_rfl) (.cons (len_obl GTerm.c c93_.gKids) (.cons (congrArg AV.bool h116) (.cons (congrArg AV.bool h117) (.cons (congrArg AV.bool h118) (.cons (congrArg AV.bool h119) .nil))))) ?_
                        exact ⟨_, rfl, h⟩
                · refine Wc.region [((none, []), none), ((none, []), none), ((some (.int .i64 (c93_.gKids.length : Int)), []), none), ((none, []), none), ((none, []), some (.bool false))] [0, 2, 4, 8] [4] [] ⟨[(0, (.v (.sl (List.map GTerm.c a90_)), [])), (2, (.v (.int .i64 b92_), [])), (4, (.ptr 4 0, [])), (8, (.v (.bool false), []))], [(4, ([.int .i64 c93_.gKind, .str c93_.gName, .int .i64 c93_.gNum, .sl (List.map GTerm.c c93_.gKids)], []))], []⟩ _ (by kernel_rfl) (.cons (len_obl GTerm.c c93_.gKids) (.cons (congrArg AV.bool h116) .nil)) ?_
                  exact ⟨_, rfl, h⟩
              · rintro st ⟨d95_, rfl, h⟩
                refine Wc.seqJ (fun st => st = ⟨[(0, (.v (.sl (List.map GTerm.c a90_)), [])), (2, (.v (.int .i64 b92_), [])), (4, (.ptr 4 0, [])), (8, (.v (.bool d95_), []))], [(4, ([.int .i64 c93_.gKind, .str c93_.gName, .int .i64 c93_.gNum, .sl (List.map GTerm.c c93_.gKids)], []))], []⟩ ∧ pimpl_eval_J2 k (pimpl_eval k) c93_ a90_ b92_ d95_ = some r) ?_ ?_
                · refine Wc.seq ?_
                  rcases oif h with ⟨h113, h⟩ | ⟨h113, h⟩
                  · obtain ⟨d103_, h114, h⟩ := obind h
                    refine Wc.region [((none, []), none), ((none, []), none), ((none, []), some (.bool true)), ((none, []), none), ((some (.bool d103_), []), none)] [0, 2, 4, 8, 68] [4] [] ⟨[(0, (.v (.sl (List.map GTerm.c a90_)), [])), (2, (.v (.int .i64 b92_), [])), (4, (.ptr 4 0, [])), (8, (.v (.bool d95_), [])), (68, (.v (.bool (!d103_)), []))], [(4, ([.int .i64 c93_.gKind, .str c93_.gName, .int .i64 c93_.gNum, .sl (List.map GTerm.c c93_.gKids)], []))], []⟩ _ (by kernel_rfl) (.cons (congrArg AV.bool h113) (.cons (cimpl_isStruct h114) .nil)) ?_
                    rcases oif h with ⟨h115, h⟩ | ⟨h115, h⟩
                    · refine Wc.condT h115 (by kernel_rfl) ?_
                      refine Wc.seq ?_
                      refine Wc.region [] [6, 7] [] [] ⟨[(6, (.v (.int .i64 0), [])), (7, (.v (.int .i64 2), []))], [], []⟩ _ (by kernel_rfl) .nil ?_
                      refine Wc.ret ?_
                      obtain rfl := Option.some.inj h
                      exact ⟨.inl rfl, by kernel_rfl⟩
                    · refine Wc.condF h115 (by kernel_rfl) ?_
                      refine Wc.keep [0, 2, 4, 8] [4] [] ⟨[(0, (.v (.sl (List.map GTerm.c a90_)), [])), (2, (.v (.int .i64 b92_), [])), (4, (.ptr 4 0, [])), (8, (.v (.bool d95_), []))], [(4, ([.int .i64 c93_.gKind, .str c93_.gName, .int .i64 c93_.gNum, .sl (List.map GTerm.c c93_.gKids)], []))], []⟩ (by kernel_rfl) ?_
                      refine Wc.skip ?_
                      exact ⟨rfl, h⟩
                  · refine Wc.region [((none, []), none), ((none, []), none), ((none, []), some (.bool false))] [0, 2, 4, 8, 68] [4] [] ⟨[(0, (.v (.sl (List.map GTerm.c a90_)), [])), (2, (.v (.int .i64 b92_), [])), (4, (.ptr 4 0, [])), (8, (.v (.bool d95_), [])), (68, (.v (.bool false), []))], [(4, ([.int .i64 c93_.gKind, .str c93_.gName, .int .i64 c93_.gNum, .sl (List.map GTerm.c c93_.gKids)], []))], []⟩ _ (by kernel_rfl) (.cons (congrArg AV.bool h113) .nil) ?_
                    refine Wc.condF rfl (by kernel_rfl) ?_
                    refine Wc.keep [0, 2, 4, 8] [4] [] ⟨[(0, (.v (.sl (List.map GTerm.c a90_)), [])), (2, (.v (.int .i64 b92_), [])), (4, (.ptr 4 0, [])), (8, (.v (.bool d95_), []))], [(4, ([.int .i64 c93_.gKind, .str c93_.gName, .int .i64 c93_.gNum, .sl (List.map GTerm.c c93_.gKids)], []))], []⟩ (by kernel_rfl) ?_
                    refine Wc.skip ?_
                    exact ⟨rfl, h⟩
                · rintro st ⟨rfl, h⟩
                  refine Wc.seq ?_
                  obtain ⟨c96_, h98, h⟩ := obind h
                  obtain ⟨g97_, h99, h⟩ := obind h
                  refine Wc.region [((none, []), none), ((none, []), none), ((none, []), none), ((some (.vptr [.int .i64 c96_.gKind, .str c96_.gName, .int .i64 c96_.gNum, .sl (List.map GTerm.c c96_.gKids)]), []), none), ((none, []), none), ((none, []), none), ((none, []), none), ((some (.tup [.int .i64 g97_.1, .int .i64 g97_.2]), []), none)] [0, 2, 4, 8, 9, 10] [4] [] ⟨[(0, (.v (.sl (List.map GTerm.c a90_)), [])), (2, (.v (.int .i64 b92_), [])), (4, (.ptr 4 0, [])), (8, (.v (.bool d95_), [])), (9, (.v (.int .i64 g97_.1), [])), (10, (.v (.int .i64 g97_.2), []))], [(4, ([.int .i64 c93_.gKind, .str c93_.gName, .int .i64 c93_.gNum, .sl (List.map GTerm.c c93_.gKids)], []))], []⟩ _ (by kernel_rfl) (.cons (at_obl (c := GTerm.c) (GTerm.c_eq c96_) GTerm.c_len h98) (.cons (len_ok 4 [.int .i64 c96_.gKind, .str c96_.gName, .int .i64 c96_.gNum, .sl (List.map GTerm.c c96_.gKids)]) (.cons (ih_pimpl_eval h99) .nil))) ?_
                  refine Wc.seq ?_
                  refine Wc.seq ?_
                  refine Wc.region [] [0, 2, 4, 8, 9, 10, 81] [4] [] ⟨[(0, (.v (.sl (List.map GTerm.c a90_)), [])), (2, (.v (.int .i64 b92_), [])), (4, (.ptr 4 0, [])), (8, (.v (.bool d95_), [])), (9, (.v (.int .i64 g97_.1), [])), (10, (.v (.int .i64 g97_.2), [])), (81, (.v (.bool (g97_.2 != 0)), []))], [(4, ([.int .i64 c93_.gKind, .str c93_.gName, .int .i64 c93_.gNum, .sl (List.map GTerm.c c93_.gKids)], []))], []⟩ _ (by kernel_rfl) .nil ?_
                  rcases oif h with ⟨h100, h⟩ | ⟨h100, h⟩
                  · refine Wc.condT h100 (by kernel_rfl) ?_
                    refine Wc.seq ?_
                    refine Wc.region [] [6, 7] [] [] ⟨[(6, (.v (.int .i64 0), [])), (7, (.v (.int .i64 g97_.2), []))], [], []⟩ _ (by kernel_rfl) .nil ?_
                    refine Wc.ret ?_
                    obtain rfl := Option.some.inj h
                    exact ⟨.inl rfl, by kernel_rfl⟩
                  · refine Wc.condF h100 (by kernel_rfl) ?_
                    refine Wc.keep [0, 2, 4, 8, 9] [4] [] ⟨[(0, (.v (.sl (List.map GTerm.c a90_)), [])), (2, (.v (.int .i64 b92_), [])), (4, (.ptr 4 0, [])), (8, (.v (.bool d95_), [])), (9, (.v (.int .i64 g97_.1), []))], [(4, ([.int .i64 c93_.gKind, .str c93_.gName, .int .i64 c93_.gNum, .sl (List.map GTerm.c c93_.gKids)], []))], []⟩ (by kernel_rfl) ?_
                    refine Wc.skip ?_
                    refine Wc.seq ?_
                    refine Wc.region [] [0, 2, 4, 8, 9, 11] [4] [] ⟨[(0, (.v (.sl (List.map GTerm.c a90_)), [])), (2, (.v (.int .i64 b92_), [])), (4, (.ptr 4 0, [])), (8, (.v (.bool d95_), [])), (9, (.v (.int .i64 g97_.1), [])), (11, (.v (.int .i64 0), []))], [(4, ([.int .i64 c93_.gKind, .str c93_.gName, .int .i64 c93_.gNum, .sl (List.map GTerm.c c93_.gKids)], []))], []⟩ _ (by kernel_rfl) .nil ?_
                    refine Wc.seqJ (fun st => ∃ (b98_ : Int), st = ⟨[(4, (.ptr 4 0, [])), (8, (.v (.bool d95_), [])), (9, (.v (.int .i64 g97_.1), [])), (11, (.v (.int .i64 b98_), []))], [(4, ([.int .i64 c93_.gKind, .str c93_.gName, .int .i64 c93_.gNum, .sl (List.map GTerm.c c93_.gKids)], []))], []⟩ ∧ pimpl_eval_J3 k (pimpl_eval k) d95_ g97_ c93_ b98_ = some r) ?_ ?_
                    · refine Wc.seq ?_
                      refine Wc.region [] [0, 2, 4, 8, 9, 11, 83] [4] [] ⟨[(0, (.v (.sl (List.map GTerm.c a90_)), [])), (2, (.v (.int .i64 b92_), [])), (4, (.ptr 4 0, [])), (8, (.v (.bool d95_), [])), (9, (.v (.int .i64 g97_.1), [])), (11, (.v (.int .i64 0), [])), (83, (.v (.bool d95_), []))], [(4, ([.int .i64 c93_.gKind, .str c93_.gName, .int .i64 c93_.gNum, .sl (List.map GTerm.c c93_.gKids)], []))], []⟩ _ (by kernel_rfl) .nil ?_
                      rcases oif h with ⟨h109, h⟩ | ⟨h109, h⟩
                      · refine Wc.condT h109 (by kernel_rfl) ?_
                        refine Wc.seq ?_
                        obtain ⟨c101_, h110, h⟩ := obind h
                        obtain ⟨g102_, h111, h⟩ := obind h
                        refine Wc.region [((none, []), none), ((none, []), none), ((none, []), none), ((some (.vptr [.int .i64 c101_.gKind, .str c101_.gName, .int .i64 c101_.gNum, .sl (List.map GTerm.c c101_.gKids)]), []), none), ((none, []), none), ((none, []), none), ((none, []), none), ((some (.tup [.int .i64 g102_.1, .int .i64 g102_.2]), []), none)] [4, 8, 9, 10, 11] [4] [] ⟨[(4, (.ptr 4 0, [])), (8, (.v (.bool d95_), [])), (9, (.v (.int .i64 g97_.1), [])), (10, (.v (.int .i64 g102_.2), [])), (11, (.v (.int .i64 g102_.1), []))], [(4, ([.int .i64 c93_.gKind, .str c93_.gName, .int .i64 c93_.gNum, .sl (List.map GTerm.c c93_.gKids)], []))], []⟩ _ (by kernel_rfl) (.cons (at_obl (c := GTerm.c) (GTerm.c_eq c101_) GTerm.c_len h110) (.cons (len_ok 4 [.int .i64 c101_.gKind, .str c101_.gName, .int .i64 c101_.gNum, .sl (List.map GTerm.c c101_.gKids)]) (.cons (ih_pimpl_eval h111) .nil))) ?_
                        refine Wc.seq ?_
                        refine Wc.region [] [4, 8, 9, 10, 11, 96] [4] [] ⟨[(4, (.ptr 4 0, [])), (8, (.v (.bool d95_), [])), (9, (.v (.int .i64 g97_.1), [])), (10, (.v (.int .i64 g102_.2), [])), (11, (.v (.int .i64 g102_.1), [])), (96, (.v (.bool (g102_.2 != 0)), []))], [(4, ([.int .i64 c93_.gKind, .str c93_.gName, .int .i64 c93_.gNum, .sl (List.map GTerm.c c93_.gKids)], []))], []⟩ _ (by kernel_rfl) .nil ?_
                        rcases oif h with ⟨h112, h⟩ | ⟨h112, h⟩
                        · refine Wc.condT h112 (by kernel_rfl) ?_
                          refine Wc.seq ?_
                          refine Wc.region [] [6, 7] [] [] ⟨[(6, (.v (.int .i64 0), [])), (7, (.v (.int .i64 g102_.2), []))], [], []⟩ _ (by kernel_rfl) .nil ?_
                          refine Wc.ret ?_
                          obtain rfl := Option.some.inj h
                          exact ⟨.inl rfl, by kernel_rfl⟩
                        · refine Wc.condF h112 (by kernel_rfl) ?_
                          refine Wc.keep [4, 8, 9, 11] [4] [] ⟨[(4, (.ptr 4 0, [])), (8, (.v (.bool d95_), [])), (9, (.v (.int .i64 g97_.1), [])), (11, (.v (.int .i64 g102_.1), []))], [(4, ([.int .i64 c93_.gKind, .str c93_.gName, .int .i64 c93_.gNum, .sl (List.map GTerm.c c93_.gKids)], []))], []⟩ (by kernel_rfl) ?_
                          refine Wc.skip ?_
                          exact ⟨_, rfl, h⟩
                      · refine Wc.condF h109 (by kernel_rfl) ?_
                        refine Wc.keep [4, 8, 9, 11] [4] [] ⟨[(4, (.ptr 4 0, [])), (8, (.v (.bool d95_), [])), (9, (.v (.int .i64 g97_.1), [])), (11, (.v (.int .i64 0), []))], [(4, ([.int .i64 c93_.gKind, .str c93_.gName, .int .i64 c93_.gNum, .sl (List.map GTerm.c c93_.gKids)], []))], []⟩ (by kernel_rfl) ?_
                        refine Wc.skip ?_
                        exact ⟨_, rfl, h⟩
                    · rintro st ⟨b98_, rfl, h⟩
                      refine Wc.seq ?_
                      refine Wc.region [] [4, 8, 9, 11, 12] [4] [] ⟨[(4, (.ptr 4 0, [])), (8, (.v (.bool d95_), [])), (9, (.v (.int .i64 g97_.1), [])), (11, (.v (.int .i64 b98_), [])), (12, (.v (.int .i64 (wr.i64 (0 - g97_.1))), []))], [(4, ([.int .i64 c93_.gKind, .str c93_.gName, .int .i64 c93_.gNum, .sl (List.map GTerm.c c93_.gKids)], []))], []⟩ _ (by kernel_rfl) .nil ?_
                      refine Wc.seqJ (fun st => ∃ (b99_ : Int), st = ⟨[(12, (.v (.int .i64 b99_), []))], [], []⟩ ∧ pimpl_eval_J4 k (pimpl_eval k) b99_ = some r) ?_ ?_
                      · refine Wc.block ?_
                        refine Wc.seq ?_
                        refine Wc.region [] [4, 9, 11, 12, 103] [4] [] ⟨[(4, (.ptr 4 0, [])), (9, (.v (.int .i64 g97_.1), [])), (11, (.v (.int .i64 b98_), [])), (12, (.v (.int .i64 (wr.i64 (0 - g97_.1))), [])), (103, (.v (.bool (!d95_)), []))], [(4, ([.int .i64 c93_.gKind, .str c93_.gName, .int .i64 c93_.gNum, .sl (List.map GTerm.c c93_.gKids)], []))], []⟩ _ (by kernel_rfl) .nil ?_
                        rcases oif h with ⟨h103, h⟩ | ⟨h103, h⟩
                        · refine Wc.condT h103 (by kernel_rfl) ?_
                          refine Wc.keep [12] [] [] ⟨[(12, (.v (.int .i64 (wr.i64 (0 - g97_.1))), []))], [], []⟩ (by kernel_rfl) ?_
                          refine Wc.skip ?_
                          exact ⟨_, rfl, h⟩
                        · refine Wc.condF h103 (by kernel_rfl) ?_
                          refine Wc.seq ?_
                          refine Wc.region [] [4, 9, 11, 106] [4] [] ⟨[(4, (.ptr 4 0, [])), (9, (.v (.int .i64 g97_.1), [])), (11, (.v (.int .i64 b98_), [])), (106, (.v (.bool (sEq c93_.gName (bs [43]))), []))], [(4, ([.int .i64 c93_.gKind, .str c93_.gName, .int .i64 c93_.gNum, .sl (List.map GTerm.c c93_.gKids)], []))], []⟩ _ (by kernel_rfl) .nil ?_
                          rcases oif h with ⟨h104, h⟩ | ⟨h104, h⟩
                          · refine Wc.condT h104 (by kernel_rfl) ?_
                            refine Wc.region [] [12] [] [] ⟨[(12, (.v (.int .i64 (wr.i64 (g97_.1 + b98_))), []))], [], []⟩ _ (by kernel_rfl) .nil ?_
                            exact ⟨_, rfl, h⟩
                          · refine Wc.condF h104 (by kernel_rfl) ?_
                            refine Wc.seq ?_
                            refine Wc.region [] [4, 9, 11, 113] [4] [] ⟨[(4, (.ptr 4 0, [])), (9, (.v (.int .i64 g97_.1), [])), (11, (.v (.int .i64 b98_), [])), (113, (.v (.bool (sEq c93_.gName (bs [45]))), []))], [(4, ([.int .i64 c93_.gKind, .str c93_.gName, .int .i64 c93_.gNum, .sl (List.map GTerm.c c93_.gKids)], []))], []⟩ _ (by kernel_rfl) .nil ?_
                            rcases oif h with ⟨h105, h⟩ | ⟨h105, h⟩
                            · refine Wc.condT h105 (by kernel_rfl) ?_
                              refine Wc.region [] [12] [] [] ⟨[(12, (.v (.int .i64 (wr.i64 (g97_.1 - b98_))), []))], [], []⟩ _ (by kernel_rfl) .nil ?_
                              exact ⟨_, rfl, h⟩
                            · refine Wc.condF h105 (by kernel_rfl) ?_
                              refine Wc.seq ?_
                              refine Wc.region [] [9, 11, 120] [] [] ⟨[(9, (.v (.int .i64 g97_.1), [])), (11, (.v (.int .i64 b98_), [])), (120, (.v (.bool (sEq c93_.gName (bs [42]))), []))], [], []⟩ _ (by kernel_rfl) .nil ?_
                              rcases oif h with ⟨h106, h⟩ | ⟨h106, h⟩
                              · refine Wc.condT h106 (by kernel_rfl) ?_
                                refine Wc.region [] [12] [] [] ⟨[(12, (.v (.int .i64 (wr.i64 (g97_.1 * b98_))), []))], [], []⟩ _ (by kernel_rfl) .nil ?_
                                exact ⟨_, rfl, h⟩
                              · refine Wc.condF h106 (by kernel_rfl) ?_
                                refine Wc.seq ?_
                                refine Wc.region [] [9, 11, 127] [] [] ⟨[(9, (.v (.int .i64 g97_.1), [])), (11, (.v (.int .i64 b98_), [])), (127, (.v (.bool (b98_ == 0)), []))], [], []⟩ _ (by kernel_rfl) .nil ?_
                                rcases oif h with ⟨h107, h⟩ | ⟨h107, h⟩
                                · refine Wc.condT h107 (by kernel_rfl) ?_
                                  refine Wc.seq ?_
                                  refine Wc.region [] [6, 7] [] [] ⟨[(6, (.v (.int .i64 0), [])), (7, (.v (.int .i64 4), []))], [], []⟩ _ (by kernel_rfl) .nil ?_
                                  refine Wc.ret ?_
                                  obtain rfl := Option.some.inj h
                                  exact ⟨.inl rfl, by kernel_rfl⟩
                                · refine Wc.condF h107 (by kernel_rfl) ?_
                                  obtain ⟨h108, h⟩ := oguard h
                                  refine Wc.region [] [12] [] [] ⟨[(12, (.v (.int .i64 (wr.i64 (Int.tdiv g97_.1 b98_))), []))], [], []⟩ _ (by kernel_rfl) (.cons h108 .nil) ?_
                                  exact ⟨_, rfl, h⟩
                      · rintro st ⟨b99_, rfl, h⟩
                        refine Wc.seq ?_
                        refine Wc.seq ?_
                        obtain ⟨d100_, h101, h⟩ := obind h
                        refine Wc.region [((none, []), none), ((some (.bool d100_), []), none)] [12, 132] [] [] ⟨[(12, (.v (.int .i64 b99_), [])), (132, (.v (.bool (!d100_)), []))], [], []⟩ _ (by kernel_rfl) (.cons (cimpl_within h101) .nil) ?_
                        rcases oif h with ⟨h102, h⟩ | ⟨h102, h⟩
                        · refine Wc.condT h102 (by kernel_rfl) ?_
                          refine Wc.seq ?_
                          refine Wc.region [] [6, 7] [] [] ⟨[(6, (.v (.int .i64 0), [])), (7, (.v (.int .i64 3), []))], [], []⟩ _ (by kernel_rfl) .nil ?_
                          refine Wc.ret ?_
                          obtain rfl := Option.some.inj h
                          exact ⟨.inl rfl, by kernel_rfl⟩
                        · refine Wc.condF h102 (by kernel_rfl) ?_
                          refine Wc.keep [12] [] [] ⟨[(12, (.v (.int .i64 b99_), []))], [], []⟩ (by kernel_rfl) ?_
                          refine Wc.skip ?_
                          refine Wc.seq ?_
                          refine Wc.region [] [6, 7] [] [] ⟨[(6, (.v (.int .i64 b99_), [])), (7, (.v (.int .i64 0), []))], [], []⟩ _ (by kernel_rfl) .nil ?_
                          refine Wc.ret ?_
                          obtain rfl := Option.some.inj h
                          exact ⟨.inl rfl, by kernel_rfl⟩
theorem cimpl_eval {k : Nat} {a90_ : List GTerm} {c91_ : GTerm} {b92_ : Int} {r : Int × Int} (h : pimpl_eval k a90_ c91_ b92_ = some r) : FnC Try.prog 56 [.sl (List.map GTerm.c a90_), .agg [.int .i64 c91_.gKind, .str c91_.gName, .int .i64 c91_.gNum, .sl (List.map GTerm.c c91_.gKids)], .int .i64 b92_] (.tup [.int .i64 r.1, .int .i64 r.2]) [] := (all_pimpl_eval k) h

/-- impl.Eval -/
def pimpl_Eval (k : Nat) (e104_ : GBinds) (c105_ : GTerm) : Option (Int × Int) :=
  (pimpl_eval k e104_.gList c105_ 1).bind fun g106_ =>
  some (g106_.1, g106_.2)
theorem cimpl_Eval {k : Nat} {e104_ : GBinds} {c105_ : GTerm} {r : Int × Int} (h : pimpl_Eval k e104_ c105_ = some r) : FnC Try.prog 36 [.agg [.sl (List.map GTerm.c e104_.gList)], .agg [.int .i64 c105_.gKind, .str c105_.gName, .int .i64 c105_.gNum, .sl (List.map GTerm.c c105_.gKids)]] (.tup [.int .i64 r.1, .int .i64 r.2]) [] := by
  refine FnC.of Try.func36 (rfl : Try.f36.body = some _) (Nat.le_of_ble_eq_true (by kernel_rfl)) ?_
  intro w0 X0
  unfold pimpl_Eval at h
  refine Wc.seq ?_
  refine Wc.region [] [2, 3] [2, 3] [] ⟨[(2, (.ptr 2 0, [])), (3, (.ptr 3 0, []))], [(2, ([.sl (List.map GTerm.c e104_.gList)], [])), (3, ([.int .i64 c105_.gKind, .str c105_.gName, .int .i64 c105_.gNum, .sl (List.map GTerm.c c105_.gKids)], []))], []⟩ _ (by kernel_rfl) .nil ?_
  refine Wc.seq ?_
  obtain ⟨g106_, h120, h⟩ := obind h
  refine Wc.region [((none, []), none), ((none, []), none), ((none, []), none), ((some (.tup [.int .i64 g106_.1, .int .i64 g106_.2]), []), none)] [4, 5] [] [] ⟨[(4, (.v (.int .i64 g106_.1), [])), (5, (.v (.int .i64 g106_.2), []))], [], []⟩ _ (by kernel_rfl) (.cons (cimpl_eval h120) .nil) ?_
  refine Wc.ret ?_
  obtain rfl := Option.some.inj h
  exact ⟨.inl rfl, by kernel_rfl⟩

/-- laws.eqBinds -/
def plaws_eqBinds (k : Nat) (e107_ : GBinds) (e108_ : GBinds) : Option Bool :=
  (plaws_eqTermS k e107_.gList e108_.gList).bind fun d109_ =>
  if (!d109_) = true then
    some false
  else
    some true
theorem claws_eqBinds {k : Nat} {e107_ : GBinds} {e108_ : GBinds} {r : Bool} (h : plaws_eqBinds k e107_ e108_ = some r) : FnC Try.prog 37 [.agg [.sl (List.map GTerm.c e107_.gList)], .agg [.sl (List.map GTerm.c e108_.gList)]] (.bool r) [] := by
  refine FnC.of Try.func37 (rfl : Try.f37.body = some _) (Nat.le_of_ble_eq_true (by kernel_rfl)) ?_
  intro w0 X0
  unfold plaws_eqBinds at h
  refine Wc.seq ?_
  refine Wc.region [] [2, 3] [2, 3] [] ⟨[(2, (.ptr 2 0, [])), (3, (.ptr 3 0, []))], [(2, ([.sl (List.map GTerm.c e107_.gList)], [])), (3, ([.sl (List.map GTerm.c e108_.gList)], []))], []⟩ _ (by kernel_rfl) .nil ?_
  refine Wc.seq ?_
  refine Wc.seq ?_
  obtain ⟨d109_, h121, h⟩ := obind h
  refine Wc.region [((none, []), none), ((none, []), none), ((none, []), none), ((none, []), none), ((some (.bool d109_), []), none)] [10] [] [] ⟨[(10, (.v (.bool (!d109_)), []))], [], []⟩ _ (by kernel_rfl) (.cons (claws_eqTermS h121) .nil) ?_
  rcases oif h with ⟨h122, h⟩ | ⟨h122, h⟩
  · refine Wc.condT h122 (by kernel_rfl) ?_
    refine Wc.seq ?_
    refine Wc.region [] [4] [] [] ⟨[(4, (.v (.bool false), []))], [], []⟩ _ (by kernel_rfl) .nil ?_
    refine Wc.ret ?_
    obtain rfl := Option.some.inj h
    exact ⟨.inl rfl, by kernel_rfl⟩
  · refine Wc.condF h122 (by kernel_rfl) ?_
    refine Wc.keep [] [] [] ⟨[], [], []⟩ (by kernel_rfl) ?_
    refine Wc.skip ?_
    refine Wc.seq ?_
    refine Wc.region [] [4] [] [] ⟨[(4, (.v (.bool true), []))], [], []⟩ _ (by kernel_rfl) .nil ?_
    refine Wc.ret ?_
    obtain rfl := Option.some.inj h
    exact ⟨.inl rfl, by kernel_rfl⟩

/-- laws.FnExactEval -/
def plaws_FnExactEval (k : Nat) (e110_ : GBinds) (c111_ : GTerm) : Option Bool :=
  (plaws_szBinds k e110_ 1048576).bind fun b112_ =>
  if (decide (b112_ < 0)) = true then
    some true
  else
    (plaws_szTerm k c111_ b112_).bind fun b113_ =>
    if (decide (b113_ < 0)) = true then
      some true
    else
      (plaws_toBinds k e110_).bind fun e114_ =>
      (plaws_toTerm k c111_).bind fun c115_ =>
      (pspec_Eval k e114_ c115_).bind fun g116_ =>
      (plaws_toBinds k e110_).bind fun e117_ =>
      (plaws_toTerm k c111_).bind fun c118_ =>
      (pimpl_Eval k e117_ c118_).bind fun g119_ =>
      if (g119_.1 != g116_.1) = true then
        some false
      else
        if (g119_.2 != g116_.2) = true then
          some false
        else
          (plaws_toBinds k e110_).bind fun e120_ =>
          (plaws_eqBinds k e117_ e120_).bind fun d121_ =>
          if (!d121_) = true then
            some false
          else
            (plaws_toTerm k c111_).bind fun c122_ =>
            (plaws_eqTerm k c118_ c122_).bind fun d123_ =>
            if (!d123_) = true then
              some false
            else
              some true
theorem claws_FnExactEval {k : Nat} {e110_ : GBinds} {c111_ : GTerm} {r : Bool} (h : plaws_FnExactEval k e110_ c111_ = some r) : FnC Try.prog 8 [.agg [.sl (List.map GTerm.c e110_.gList)], .agg [.int .i64 c111_.gKind, .str c111_.gName, .int .i64 c111_.gNum, .sl (List.map GTerm.c c111_.gKids)]] (.bool r) [] := by
  refine FnC.of Try.func8 (rfl : Try.f8.body = some _) (Nat.le_of_ble_eq_true (by kernel_rfl)) ?_
  intro w0 X0
  unfold plaws_FnExactEval at h
  refine Wc.seq ?_
  refine Wc.region [] [2, 3] [2, 3] [] ⟨[(2, (.ptr 2 0, [])), (3, (.ptr 3 0, []))], [(2, ([.sl (List.map GTerm.c e110_.gList)], [])), (3, ([.int .i64 c111_.gKind, .str c111_.gName, .int .i64 c111_.gNum, .sl (List.map GTerm.c c111_.gKids)], []))], []⟩ _ (by kernel_rfl) .nil ?_
  refine Wc.seq ?_
  refine Wc.region [] [2, 3, 5] [2, 3] [] ⟨[(2, (.ptr 2 0, [])), (3, (.ptr 3 0, [])), (5, (.v (.int .i64 1048576), []))], [(2, ([.sl (List.map GTerm.c e110_.gList)], [])), (3, ([.int .i64 c111_.gKind, .str c111_.gName, .int .i64 c111_.gNum, .sl (List.map GTerm.c c111_.gKids)], []))], []⟩ _ (by kernel_rfl) .nil ?_
  refine Wc.seq ?_
  obtain ⟨b112_, h123, h⟩ := obind h
  refine Wc.region [((none, []), none), ((none, []), none), ((some (.int .i64 b112_), []), none)] [2, 3, 5] [2, 3] [] ⟨[(2, (.ptr 2 0, [])), (3, (.ptr 3 0, [])), (5, (.v (.int .i64 b112_), []))], [(2, ([.sl (List.map GTerm.c e110_.gList)], [])), (3, ([.int .i64 c111_.gKind, .str c111_.gName, .int .i64 c111_.gNum, .sl (List.map GTerm.c c111_.gKids)], []))], []⟩ _ (by kernel_rfl) (.cons (claws_szBinds h123) .nil) ?_
  refine Wc.seq ?_
  refine Wc.seq ?_
  refine Wc.region [] [2, 3, 5, 16] [2, 3] [] ⟨[(2, (.ptr 2 0, [])), (3, (.ptr 3 0, [])), (5, (.v (.int .i64 b112_), [])), (16, (.v (.bool (decide (b112_ < 0))), []))], [(2, ([.sl (List.map GTerm.c e110_.gList)], [])), (3, ([.int .i64 c111_.gKind, .str c111_.gName, .int .i64 c111_.gNum, .sl (List.map GTerm.c c111_.gKids)], []))], []⟩ _ (by kernel_rfl) .nil ?_
  rcases oif h with ⟨h124, h⟩ | ⟨h124, h⟩
  · refine Wc.condT h124 (by kernel_rfl) ?_
    refine Wc.seq ?_
    refine Wc.region [] [4] [] [] ⟨[(4, (.v (.bool true), []))], [], []⟩ _ (by kernel_rfl) .nil ?_
    refine Wc.ret ?_
    obtain rfl := Option.some.inj h
    exact ⟨.inl rfl, by kernel_rfl⟩
  · refine Wc.condF h124 (by kernel_rfl) ?_
    refine Wc.keep [2, 3, 5] [2, 3] [] ⟨[(2, (.ptr 2 0, [])), (3, (.ptr 3 0, [])), (5, (.v (.int .i64 b112_), []))], [(2, ([.sl (List.map GTerm.c e110_.gList)], [])), (3, ([.int .i64 c111_.gKind, .str c111_.gName, .int .i64 c111_.gNum, .sl (List.map GTerm.c c111_.gKids)], []))], []⟩ (by kernel_rfl) ?_
    refine Wc.skip ?_
    refine Wc.seq ?_
    obtain ⟨b113_, h125, h⟩ := obind h
    refine Wc.region [((none, []), none), ((none, []), none), ((some (.int .i64 b113_), []), none)] [2, 3, 5] [2, 3] [] ⟨[(2, (.ptr 2 0, [])), (3, (.ptr 3 0, [])), (5, (.v (.int .i64 b113_), []))], [(2, ([.sl (List.map GTerm.c e110_.gList)], [])), (3, ([.int .i64 c111_.gKind, .str c111_.gName, .int .i64 c111_.gNum, .sl (List.map GTerm.c c111_.gKids)], []))], []⟩ _ (by kernel_rfl) (.cons (claws_szTerm h125) .nil) ?_
    refine Wc.seq ?_
    refine Wc.seq ?_
    refine Wc.region [] [2, 3, 21] [2, 3] [] ⟨[(2, (.ptr 2 0, [])), (3, (.ptr 3 0, [])), (21, (.v (.bool (decide (b113_ < 0))), []))], [(2, ([.sl (List.map GTerm.c e110_.gList)], [])), (3, ([.int .i64 c111_.gKind, .str c111_.gName, .int .i64 c111_.gNum, .sl (List.map GTerm.c c111_.gKids)], []))], []⟩ _ (by kernel_rfl) .nil ?_
    rcases oif h with ⟨h126, h⟩ | ⟨h126, h⟩
    · refine Wc.condT h126 (by kernel_rfl) ?_
      refine Wc.seq ?_
      refine Wc.region [] [4] [] [] ⟨[(4, (.v (.bool true), []))], [], []⟩ _ (by kernel_rfl) .nil ?_
      refine Wc.ret ?_
      obtain rfl := Option.some.inj h
      exact ⟨.inl rfl, by kernel_rfl⟩
    · refine Wc.condF h126 (by kernel_rfl) ?_
      refine Wc.keep [2, 3] [2, 3] [] ⟨[(2, (.ptr 2 0, [])), (3, (.ptr 3 0, []))], [(2, ([.sl (List.map GTerm.c e110_.gList)], [])), (3, ([.int .i64 c111_.gKind, .str c111_.gName, .int .i64 c111_.gNum, .sl (List.map GTerm.c c111_.gKids)], []))], []⟩ (by kernel_rfl) ?_
      refine Wc.skip ?_
      refine Wc.seq ?_
      obtain ⟨e114_, h127, h⟩ := obind h
      obtain ⟨c115_, h128, h⟩ := obind h
      obtain ⟨g116_, h129, h⟩ := obind h
      refine Wc.draw hmix [((none, []), none), ((some (.agg [.sl (List.map GTerm.c e114_.gList)]), []), none), ((none, []), none), ((some (.agg [.int .i64 c115_.gKind, .str c115_.gName, .int .i64 c115_.gNum, .sl (List.map GTerm.c c115_.gKids)]), []), none), ((some (.tup [.int .i64 g116_.1, .int .i64 g116_.2]), []), none)] [2, 3, 6, 7] [2, 3] [] ⟨[(2, (.ptr 2 0, [])), (3, (.ptr 3 0, [])), (6, (.v (.int .i64 g116_.1), [])), (7, (.v (.int .i64 g116_.2), []))], [(2, ([.sl (List.map GTerm.c e110_.gList)], [])), (3, ([.int .i64 c111_.gKind, .str c111_.gName, .int .i64 c111_.gNum, .sl (List.map GTerm.c c111_.gKids)], []))], []⟩ _ (by kernel_rfl) (.cons (claws_toBinds h127) (.cons (claws_toTerm h128) (.cons (cspec_Eval h129) .nil))) ?_
      refine Wc.seq ?_
      obtain ⟨e117_, h130, h⟩ := obind h
      refine Wc.region [((none, []), none), ((some (.agg [.sl (List.map GTerm.c e117_.gList)]), []), none)] [2, 3, 6, 7, 8] [2, 3, 8] [] ⟨[(2, (.ptr 2 0, [])), (3, (.ptr 3 0, [])), (6, (.v (.int .i64 g116_.1), [])), (7, (.v (.int .i64 g116_.2), [])), (8, (.ptr 8 0, []))], [(2, ([.sl (List.map GTerm.c e110_.gList)], [])), (3, ([.int .i64 c111_.gKind, .str c111_.gName, .int .i64 c111_.gNum, .sl (List.map GTerm.c c111_.gKids)], [])), (8, ([.sl (List.map GTerm.c e117_.gList)], []))], []⟩ _ (by kernel_rfl) (.cons (claws_toBinds h130) .nil) ?_
      refine Wc.seq ?_
      obtain ⟨c118_, h131, h⟩ := obind h
      refine Wc.region [((none, []), none), ((some (.agg [.int .i64 c118_.gKind, .str c118_.gName, .int .i64 c118_.gNum, .sl (List.map GTerm.c c118_.gKids)]), []), none)] [2, 3, 6, 7, 8, 9] [2, 3, 8, 9] [] ⟨[(2, (.ptr 2 0, [])), (3, (.ptr 3 0, [])), (6, (.v (.int .i64 g116_.1), [])), (7, (.v (.int .i64 g116_.2), [])), (8, (.ptr 8 0, [])), (9, (.ptr 9 0, []))], [(2, ([.sl (List.map GTerm.c e110_.gList)], [])), (3, ([.int .i64 c111_.gKind, .str c111_.gName, .int .i64 c111_.gNum, .sl (List.map GTerm.c c111_.gKids)], [])), (8, ([.sl (List.map GTerm.c e117_.gList)], [])), (9, ([.int .i64 c118_.gKind, .str c118_.gName, .int .i64 c118_.gNum, .sl (List.map GTerm.c c118_.gKids)], []))], []⟩ _ (by kernel_rfl) (.cons (claws_toTerm h131) .nil) ?_
      refine Wc.seq ?_
      obtain ⟨g119_, h132, h⟩ := obind h
      refine Wc.region [((none, []), none), ((none, []), none), ((some (.tup [.int .i64 g119_.1, .int .i64 g119_.2]), []), none)] [2, 3, 6, 7, 8, 9, 10, 11] [2, 3, 8, 9] [] ⟨[(2, (.ptr 2 0, [])), (3, (.ptr 3 0, [])), (6, (.v (.int .i64 g116_.1), [])), (7, (.v (.int .i64 g116_.2), [])), (8, (.ptr 8 0, [])), (9, (.ptr 9 0, [])), (10, (.v (.int .i64 g119_.1), [])), (11, (.v (.int .i64 g119_.2), []))], [(2, ([.sl (List.map GTerm.c e110_.gList)], [])), (3, ([.int .i64 c111_.gKind, .str c111_.gName, .int .i64 c111_.gNum, .sl (List.map GTerm.c c111_.gKids)], [])), (8, ([.sl (List.map GTerm.c e117_.gList)], [])), (9, ([.int .i64 c118_.gKind, .str c118_.gName, .int .i64 c118_.gNum, .sl (List.map GTerm.c c118_.gKids)], []))], []⟩ _ (by kernel_rfl) (.cons (cimpl_Eval h132) .nil) ?_
      refine Wc.seq ?_
      refine Wc.seq ?_
      rcases oif h with ⟨h133, h⟩ | ⟨h133, h⟩
      · refine Wc.region [((none, []), none), ((none, []), none), ((none, []), none), ((none, []), some (.bool true))] [2, 3, 8, 9, 47] [2, 3, 8, 9] [] ⟨[(2, (.ptr 2 0, [])), (3, (.ptr 3 0, [])), (8, (.ptr 8 0, [])), (9, (.ptr 9 0, [])), (47, (.v (.bool true), []))], [(2, ([.sl (List.map GTerm.c e110_.gList)], [])), (3, ([.int .i64 c111_.gKind, .str c111_.gName, .int .i64 c111_.gNum, .sl (List.map GTerm.c c111_.gKids)], [])), (8, ([.sl (List.map GTerm.c e117_.gList)], [])), (9, ([.int .i64 c118_.gKind, .str c118_.gName, .int .i64 c118_.gNum, .sl (List.map GTerm.c c118_.gKids)], []))], []⟩ _ (by kernel_rfl) (.cons (congrArg AV.bool h133) .nil) ?_
        refine Wc.condT rfl (by kernel_rfl) ?_
        refine Wc.seq ?_
        refine Wc.region [] [4] [] [] ⟨[(4, (.v (.bool false), []))], [], []⟩ _ (by kernel_rfl) .nil ?_
        refine Wc.ret ?_
        obtain rfl := Option.some.inj h
        exact ⟨.inl rfl, by kernel_rfl⟩
      · refine Wc.region [((none, []), none), ((none, []), none), ((none, []), none), ((none, []), some (.bool false))] [2, 3, 8, 9, 47] [2, 3, 8, 9] [] ⟨[(2, (.ptr 2 0, [])), (3, (.ptr 3 0, [])), (8, (.ptr 8 0, [])), (9, (.ptr 9 0, [])), (47, (.v (.bool (g119_.2 != g116_.2)), []))], [(2, ([.sl (List.map GTerm.c e110_.gList)], [])), (3, ([.int .i64 c111_.gKind, .str c111_.gName, .int .i64 c111_.gNum, .sl (List.map GTerm.c c111_.gKids)], [])), (8, ([.sl (List.map GTerm.c e117_.gList)], [])), (9, ([.int .i64 c118_.gKind, .str c118_.gName, .int .i64 c118_.gNum, .sl (List.map GTerm.c c118_.gKids)], []))], []⟩ _ (by kernel_rfl) (.cons (congrArg AV.bool h133) .nil) ?_
        rcases oif h with ⟨h134, h⟩ | ⟨h134, h⟩
        · refine Wc.condT h134 (by kernel_rfl) ?_
          refine Wc.seq ?_
          refine Wc.region [] [4] [] [] ⟨[(4, (.v (.bool false), []))], [], []⟩ _ (by kernel_rfl) .nil ?_
          refine Wc.ret ?_
          obtain rfl := Option.some.inj h
          exact ⟨.inl rfl, by kernel_rfl⟩
        · refine Wc.condF h134 (by kernel_rfl) ?_
          refine Wc.keep [2, 3, 8, 9] [2, 3, 8, 9] [] ⟨[(2, (.ptr 2 0, [])), (3, (.ptr 3 0, [])), (8, (.ptr 8 0, [])), (9, (.ptr 9 0, []))], [(2, ([.sl (List.map GTerm.c e110_.gList)], [])), (3, ([.int .i64 c111_.gKind, .str c111_.gName, .int .i64 c111_.gNum, .sl (List.map GTerm.c c111_.gKids)], [])), (8, ([.sl (List.map GTerm.c e117_.gList)], [])), (9, ([.int .i64 c118_.gKind, .str c118_.gName, .int .i64 c118_.gNum, .sl (List.map GTerm.c c118_.gKids)], []))], []⟩ (by kernel_rfl) ?_
          refine Wc.skip ?_
          refine Wc.seq ?_
          refine Wc.seq ?_
          obtain ⟨e120_, h135, h⟩ := obind h
          obtain ⟨d121_, h136, h⟩ := obind h
          refine Wc.draw hmix [((none, []), none), ((none, []), none), ((some (.agg [.sl (List.map GTerm.c e120_.gList)]), []), none), ((some (.bool d121_), []), none)] [3, 9, 52] [3, 9] [] ⟨[(3, (.ptr 3 0, [])), (9, (.ptr 9 0, [])), (52, (.v (.bool (!d121_)), []))], [(3, ([.int .i64 c111_.gKind, .str c111_.gName, .int .i64 c111_.gNum, .sl (List.map GTerm.c c111_.gKids)], [])), (9, ([.int .i64 c118_.gKind, .str c118_.gName, .int .i64 c118_.gNum, .sl (List.map GTerm.c c118_.gKids)], []))], []⟩ _ (by kernel_rfl) (.cons (claws_toBinds h135) (.cons (claws_eqBinds h136) .nil)) ?_
          rcases oif h with ⟨h137, h⟩ | ⟨h137, h⟩
          · refine Wc.condT h137 (by kernel_rfl) ?_
            refine Wc.seq ?_
            refine Wc.region [] [4] [] [] ⟨[(4, (.v (.bool false), []))], [], []⟩ _ (by kernel_rfl) .nil ?_
            refine Wc.ret ?_
            obtain rfl := Option.some.inj h
            exact ⟨.inl rfl, by kernel_rfl⟩
          · refine Wc.condF h137 (by kernel_rfl) ?_
            refine Wc.keep [3, 9] [3, 9] [] ⟨[(3, (.ptr 3 0, [])), (9, (.ptr 9 0, []))], [(3, ([.int .i64 c111_.gKind, .str c111_.gName, .int .i64 c111_.gNum, .sl (List.map GTerm.c c111_.gKids)], [])), (9, ([.int .i64 c118_.gKind, .str c118_.gName, .int .i64 c118_.gNum, .sl (List.map GTerm.c c118_.gKids)], []))], []⟩ (by kernel_rfl) ?_
            refine Wc.skip ?_
            refine Wc.seq ?_
            refine Wc.seq ?_
            obtain ⟨c122_, h138, h⟩ := obind h
            obtain ⟨d123_, h139, h⟩ := obind h
            refine Wc.draw hmix [((none, []), none), ((none, []), none), ((some (.agg [.int .i64 c122_.gKind, .str c122_.gName, .int .i64 c122_.gNum, .sl (List.map GTerm.c c122_.gKids)]), []), none), ((some (.bool d123_), []), none)] [57] [] [] ⟨[(57, (.v (.bool (!d123_)), []))], [], []⟩ _ (by kernel_rfl) (.cons (claws_toTerm h138) (.cons (claws_eqTerm h139) .nil)) ?_
            rcases oif h with ⟨h140, h⟩ | ⟨h140, h⟩
            · refine Wc.condT h140 (by kernel_rfl) ?_
              refine Wc.seq ?_
              refine Wc.region [] [4] [] [] ⟨[(4, (.v (.bool false), []))], [], []⟩ _ (by kernel_rfl) .nil ?_
              refine Wc.ret ?_
              obtain rfl := Option.some.inj h
              exact ⟨.inl rfl, by kernel_rfl⟩
            · refine Wc.condF h140 (by kernel_rfl) ?_
              refine Wc.keep [] [] [] ⟨[], [], []⟩ (by kernel_rfl) ?_
              refine Wc.skip ?_
              refine Wc.seq ?_
              refine Wc.region [] [4] [] [] ⟨[(4, (.v (.bool true), []))], [], []⟩ _ (by kernel_rfl) .nil ?_
              refine Wc.ret ?_
              obtain rfl := Option.some.inj h
              exact ⟨.inl rfl, by kernel_rfl⟩
end Go.Proofs.Ytbpenglnebpbcaa

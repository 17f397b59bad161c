/- What the functions do. -/
import Derived.Test.YtbpenglnebpbcaaTy
set_option linter.unusedVariables false
set_option linter.unusedSimpArgs false
namespace Go.Proofs.Ytbpenglnebpbcaa
open Go.RowKit Go.Av
def plaws_szTermS_L1 (k : Nat) (rlaws_szTermS : (List GTerm) → Int → Option Int) (rlaws_szTerm : GTerm → Int → Option Int) (a1_ : List GTerm) : Nat → Int → Int → Option (Out Int Int)
  | 0, _, _ => none
  | m + 1, b3_, b4_ =>
    if (decide (b4_ < (a1_.length : Int))) = true then
      (at' a1_ b4_).bind fun c6_ =>
      (rlaws_szTerm c6_ b3_).bind fun b7_ =>
      if (decide (b7_ < 0)) = true then
        some (.ret (-1))
      else
        plaws_szTermS_L1 k rlaws_szTermS rlaws_szTerm a1_ m b7_ (wr.i64 (b4_ + 1))
    else
      some (.done b3_)
mutual
/-- laws.szTermS -/
def plaws_szTermS : Nat → (List GTerm) → Int → Option Int
  | 0, _, _ => none
  | k + 1, a1_, b2_ =>
    if (decide ((wr.i64 (b2_ - (a1_.length : Int))) < 0)) = true then
      some (-1)
    else
      (plaws_szTermS_L1 k (plaws_szTermS k) (plaws_szTerm k) a1_ k (wr.i64 (b2_ - (a1_.length : Int))) 0).bind fun out1 => match out1 with
      | .ret r => some r
      | .done b5_ =>
        some b5_
/-- laws.szTerm -/
def plaws_szTerm : Nat → GTerm → Int → Option Int
  | 0, _, _ => none
  | k + 1, c8_, b9_ =>
    if (decide ((wr.i64 (b9_ - (c8_.gName.size : Int))) < 0)) = true then
      some (-1)
    else
      (plaws_szTermS k c8_.gKids (wr.i64 (b9_ - (c8_.gName.size : Int)))).bind fun b10_ =>
      if (decide (b10_ < 0)) = true then
        some (-1)
      else
        some b10_
end
theorem all_plaws_szTermS : ∀ k : Nat, (∀ {a1_ : List GTerm} {b2_ : Int} {r : Int}, plaws_szTermS k a1_ b2_ = some r → FnC Try.prog 20 [.sl (List.map GTerm.c a1_), .int .i64 b2_] (.int .i64 r) []) ∧
    (∀ {c8_ : GTerm} {b9_ : Int} {r : Int}, plaws_szTerm k c8_ b9_ = some r → FnC Try.prog 21 [.agg [.int .i64 c8_.gKind, .str c8_.gName, .int .i64 c8_.gNum, .sl (List.map GTerm.c c8_.gKids)], .int .i64 b9_] (.int .i64 r) []) := by
  intro k
  induction k with
  | zero =>
    refine ⟨?_, ?_⟩
    · intro a1_ b2_ r h
      exact (onone (by rw [plaws_szTermS] at h; exact h)).elim
    · intro c8_ b9_ r h
      exact (onone (by rw [plaws_szTerm] at h; exact h)).elim
  | succ k ih =>
    obtain ⟨ih_plaws_szTermS, ih_plaws_szTerm⟩ := ih
    refine ⟨?_, ?_⟩
    · intro a1_ b2_ r h
      rw [plaws_szTermS] at h
      refine FnC.of Try.func20 (rfl : Try.f20.body = some _) (Nat.le_of_ble_eq_true (by kernel_rfl)) ?_
      intro w0 X0
      refine Wc.seq ?_
      refine Wc.region [] [0, 1] [] [] ⟨[(0, (.v (.sl (List.map GTerm.c a1_)), [])), (1, (.v (.int .i64 b2_), []))], [], []⟩ _ (by kernel_rfl) .nil ?_
      refine Wc.seq ?_
      refine Wc.region [((none, []), none), ((none, []), none), ((some (.int .i64 (a1_.length : Int)), []), none)] [0, 1] [] [] ⟨[(0, (.v (.sl (List.map GTerm.c a1_)), [])), (1, (.v (.int .i64 (wr.i64 (b2_ - (a1_.length : Int)))), []))], [], []⟩ _ (by kernel_rfl) (.cons (len_obl GTerm.c a1_) .nil) ?_
      refine Wc.seq ?_
      refine Wc.seq ?_
      refine Wc.region [] [0, 1, 11] [] [] ⟨[(0, (.v (.sl (List.map GTerm.c a1_)), [])), (1, (.v (.int .i64 (wr.i64 (b2_ - (a1_.length : Int)))), [])), (11, (.v (.bool (decide ((wr.i64 (b2_ - (a1_.length : Int))) < 0))), []))], [], []⟩ _ (by kernel_rfl) .nil ?_
      rcases oif h with ⟨h1, h⟩ | ⟨h1, h⟩
      · refine Wc.condT h1 (by kernel_rfl) ?_
        refine Wc.seq ?_
        refine Wc.region [] [4] [] [] ⟨[(4, (.v (.int .i64 (-1)), []))], [], []⟩ _ (by kernel_rfl) .nil ?_
        refine Wc.ret ?_
        obtain rfl := Option.some.inj h
        exact ⟨.inl rfl, by kernel_rfl⟩
      · refine Wc.condF h1 (by kernel_rfl) ?_
        refine Wc.keep [0, 1] [] [] ⟨[(0, (.v (.sl (List.map GTerm.c a1_)), [])), (1, (.v (.int .i64 (wr.i64 (b2_ - (a1_.length : Int)))), []))], [], []⟩ (by kernel_rfl) ?_
        refine Wc.skip ?_
        refine Wc.seq ?_
        refine Wc.seq ?_
        refine Wc.region [] [0, 1, 5] [] [] ⟨[(0, (.v (.sl (List.map GTerm.c a1_)), [])), (1, (.v (.int .i64 (wr.i64 (b2_ - (a1_.length : Int)))), [])), (5, (.v (.int .i64 0), []))], [], []⟩ _ (by kernel_rfl) .nil ?_
        obtain ⟨out1, h2, h⟩ := obind h
        refine Wc.lastJ (fun st => ∃ (b5_ : Int), out1 = .done b5_ ∧ st = ⟨[(1, (.v (.int .i64 b5_), []))], [], []⟩) ?_ ?_
        · refine Wc.block ?_
          refine Wc.loop (fun m st => ∃ (b3_ : Int) (b4_ : Int), st = ⟨[(0, (.v (.sl (List.map GTerm.c a1_)), [])), (1, (.v (.int .i64 b3_), [])), (5, (.v (.int .i64 b4_), []))], [], []⟩ ∧ plaws_szTermS_L1 k (plaws_szTermS k) (plaws_szTerm k) a1_ m b3_ b4_ = some out1) ?_ k ⟨_, _, rfl, h2⟩
          rintro m st ⟨b3_, b4_, rfl, h2⟩
          cases m with
          | zero => exact (onone h2).elim
          | succ m =>
            refine Wc.seq ?_
            refine Wc.seq ?_
            refine Wc.region [((none, []), none), ((none, []), none), ((some (.int .i64 (a1_.length : Int)), []), none)] [0, 1, 5, 15] [] [] ⟨[(0, (.v (.sl (List.map GTerm.c a1_)), [])), (1, (.v (.int .i64 b3_), [])), (5, (.v (.int .i64 b4_), [])), (15, (.v (.bool (decide (b4_ < (a1_.length : Int)))), []))], [], []⟩ _ (by kernel_rfl) (.cons (len_obl GTerm.c a1_) .nil) ?_
            rcases oif h2 with ⟨h3, h2⟩ | ⟨h3, h2⟩
            · refine Wc.condT h3 (by kernel_rfl) ?_
              refine Wc.keep [0, 1, 5] [] [] ⟨[(0, (.v (.sl (List.map GTerm.c a1_)), [])), (1, (.v (.int .i64 b3_), [])), (5, (.v (.int .i64 b4_), []))], [], []⟩ (by kernel_rfl) ?_
              refine Wc.skip ?_
              refine Wc.seq ?_
              refine Wc.block ?_
              refine Wc.seq ?_
              obtain ⟨c6_, h4, h2⟩ := obind h2
              obtain ⟨b7_, h5, h2⟩ := obind h2
              refine Wc.region [((none, []), none), ((none, []), none), ((some (.vptr [.int .i64 c6_.gKind, .str c6_.gName, .int .i64 c6_.gNum, .sl (List.map GTerm.c c6_.gKids)]), []), none), ((none, []), none), ((none, []), none), ((some (.int .i64 b7_), []), none)] [0, 1, 5] [] [] ⟨[(0, (.v (.sl (List.map GTerm.c a1_)), [])), (1, (.v (.int .i64 b7_), [])), (5, (.v (.int .i64 b4_), []))], [], []⟩ _ (by kernel_rfl) (.cons (at_obl (c := GTerm.c) (GTerm.c_eq c6_) GTerm.c_len h4) (.cons (len_ok 4 [.int .i64 c6_.gKind, .str c6_.gName, .int .i64 c6_.gNum, .sl (List.map GTerm.c c6_.gKids)]) (.cons (ih_plaws_szTerm h5) .nil))) ?_
              refine Wc.seq ?_
              refine Wc.region [] [0, 1, 5, 25] [] [] ⟨[(0, (.v (.sl (List.map GTerm.c a1_)), [])), (1, (.v (.int .i64 b7_), [])), (5, (.v (.int .i64 b4_), [])), (25, (.v (.bool (decide (b7_ < 0))), []))], [], []⟩ _ (by kernel_rfl) .nil ?_
              rcases oif h2 with ⟨h6, h2⟩ | ⟨h6, h2⟩
              · refine Wc.condT h6 (by kernel_rfl) ?_
                refine Wc.seq ?_
                refine Wc.region [] [4] [] [] ⟨[(4, (.v (.int .i64 (-1)), []))], [], []⟩ _ (by kernel_rfl) .nil ?_
                refine Wc.ret ?_
                obtain rfl := Option.some.inj h2
                obtain rfl := Option.some.inj h
                exact ⟨.inl rfl, by kernel_rfl⟩
              · refine Wc.condF h6 (by kernel_rfl) ?_
                refine Wc.keep [0, 1, 5] [] [] ⟨[(0, (.v (.sl (List.map GTerm.c a1_)), [])), (1, (.v (.int .i64 b7_), [])), (5, (.v (.int .i64 b4_), []))], [], []⟩ (by kernel_rfl) ?_
                refine Wc.skip ?_
                refine Wc.region [] [0, 1, 5] [] [] ⟨[(0, (.v (.sl (List.map GTerm.c a1_)), [])), (1, (.v (.int .i64 b7_), [])), (5, (.v (.int .i64 (wr.i64 (b4_ + 1))), []))], [], []⟩ _ (by kernel_rfl) .nil ?_
                exact ⟨_, Nat.lt_succ_self _, _, _, rfl, h2⟩
            · refine Wc.condF h3 (by kernel_rfl) ?_
              refine Wc.keep [1] [] [] ⟨[(1, (.v (.int .i64 b3_), []))], [], []⟩ (by kernel_rfl) ?_
              refine Wc.exit ?_
              obtain rfl := Option.some.inj h2
              exact ⟨_, rfl, rfl⟩
        · rintro st ⟨b5_, rfl, rfl⟩
          refine Wc.seq ?_
          refine Wc.region [] [4] [] [] ⟨[(4, (.v (.int .i64 b5_), []))], [], []⟩ _ (by kernel_rfl) .nil ?_
          refine Wc.ret ?_
          obtain rfl := Option.some.inj h
          exact ⟨.inl rfl, by kernel_rfl⟩
    · intro c8_ b9_ r h
      rw [plaws_szTerm] at h
      refine FnC.of Try.func21 (rfl : Try.f21.body = some _) (Nat.le_of_ble_eq_true (by kernel_rfl)) ?_
      intro w0 X0
      refine Wc.seq ?_
      refine Wc.region [] [1, 2] [2] [] ⟨[(1, (.v (.int .i64 b9_), [])), (2, (.ptr 2 0, []))], [(2, ([.int .i64 c8_.gKind, .str c8_.gName, .int .i64 c8_.gNum, .sl (List.map GTerm.c c8_.gKids)], []))], []⟩ _ (by kernel_rfl) .nil ?_
      refine Wc.seq ?_
      refine Wc.region [] [1, 2] [2] [] ⟨[(1, (.v (.int .i64 (wr.i64 (b9_ - (c8_.gName.size : Int)))), [])), (2, (.ptr 2 0, []))], [(2, ([.int .i64 c8_.gKind, .str c8_.gName, .int .i64 c8_.gNum, .sl (List.map GTerm.c c8_.gKids)], []))], []⟩ _ (by kernel_rfl) .nil ?_
      refine Wc.seq ?_
      refine Wc.seq ?_
      refine Wc.region [] [1, 2, 11] [2] [] ⟨[(1, (.v (.int .i64 (wr.i64 (b9_ - (c8_.gName.size : Int)))), [])), (2, (.ptr 2 0, [])), (11, (.v (.bool (decide ((wr.i64 (b9_ - (c8_.gName.size : Int))) < 0))), []))], [(2, ([.int .i64 c8_.gKind, .str c8_.gName, .int .i64 c8_.gNum, .sl (List.map GTerm.c c8_.gKids)], []))], []⟩ _ (by kernel_rfl) .nil ?_
      rcases oif h with ⟨h7, h⟩ | ⟨h7, h⟩
      · refine Wc.condT h7 (by kernel_rfl) ?_
        refine Wc.seq ?_
        refine Wc.region [] [4] [] [] ⟨[(4, (.v (.int .i64 (-1)), []))], [], []⟩ _ (by kernel_rfl) .nil ?_
        refine Wc.ret ?_
        obtain rfl := Option.some.inj h
        exact ⟨.inl rfl, by kernel_rfl⟩
      · refine Wc.condF h7 (by kernel_rfl) ?_
        refine Wc.keep [1, 2] [2] [] ⟨[(1, (.v (.int .i64 (wr.i64 (b9_ - (c8_.gName.size : Int)))), [])), (2, (.ptr 2 0, []))], [(2, ([.int .i64 c8_.gKind, .str c8_.gName, .int .i64 c8_.gNum, .sl (List.map GTerm.c c8_.gKids)], []))], []⟩ (by kernel_rfl) ?_
        refine Wc.skip ?_
        refine Wc.seq ?_
        obtain ⟨b10_, h8, h⟩ := obind h
        refine Wc.region [((none, []), none), ((none, []), none), ((none, []), none), ((some (.int .i64 b10_), []), none)] [1] [] [] ⟨[(1, (.v (.int .i64 b10_), []))], [], []⟩ _ (by kernel_rfl) (.cons (ih_plaws_szTermS h8) .nil) ?_
        refine Wc.seq ?_
        refine Wc.seq ?_
        refine Wc.region [] [1, 17] [] [] ⟨[(1, (.v (.int .i64 b10_), [])), (17, (.v (.bool (decide (b10_ < 0))), []))], [], []⟩ _ (by kernel_rfl) .nil ?_
        rcases oif h with ⟨h9, h⟩ | ⟨h9, h⟩
        · refine Wc.condT h9 (by kernel_rfl) ?_
          refine Wc.seq ?_
          refine Wc.region [] [4] [] [] ⟨[(4, (.v (.int .i64 (-1)), []))], [], []⟩ _ (by kernel_rfl) .nil ?_
          refine Wc.ret ?_
          obtain rfl := Option.some.inj h
          exact ⟨.inl rfl, by kernel_rfl⟩
        · refine Wc.condF h9 (by kernel_rfl) ?_
          refine Wc.keep [1] [] [] ⟨[(1, (.v (.int .i64 b10_), []))], [], []⟩ (by kernel_rfl) ?_
          refine Wc.skip ?_
          refine Wc.seq ?_
          refine Wc.region [] [4] [] [] ⟨[(4, (.v (.int .i64 b10_), []))], [], []⟩ _ (by kernel_rfl) .nil ?_
          refine Wc.ret ?_
          obtain rfl := Option.some.inj h
          exact ⟨.inl rfl, by kernel_rfl⟩
theorem claws_szTermS {k : Nat} {a1_ : List GTerm} {b2_ : Int} {r : Int} (h : plaws_szTermS k a1_ b2_ = some r) : FnC Try.prog 20 [.sl (List.map GTerm.c a1_), .int .i64 b2_] (.int .i64 r) [] := (all_plaws_szTermS k).1 h
theorem claws_szTerm {k : Nat} {c8_ : GTerm} {b9_ : Int} {r : Int} (h : plaws_szTerm k c8_ b9_ = some r) : FnC Try.prog 21 [.agg [.int .i64 c8_.gKind, .str c8_.gName, .int .i64 c8_.gNum, .sl (List.map GTerm.c c8_.gKids)], .int .i64 b9_] (.int .i64 r) [] := (all_plaws_szTermS k).2 h

def pspec_SameTerm_L1 (k : Nat) (rspec_SameTerm : GTerm → GTerm → Option Bool) (c11_ : GTerm) (c12_ : GTerm) : Nat → Int → Option (Out Bool Unit)
  | 0, _ => none
  | m + 1, b13_ =>
    if (decide (b13_ < (c11_.gKids.length : Int))) = true then
      (at' c11_.gKids b13_).bind fun c14_ =>
      (at' c12_.gKids b13_).bind fun c15_ =>
      (rspec_SameTerm c14_ c15_).bind fun d16_ =>
      if (!d16_) = true then
        some (.ret false)
      else
        pspec_SameTerm_L1 k rspec_SameTerm c11_ c12_ m (wr.i64 (b13_ + 1))
    else
      some (.done ())
mutual
/-- spec.SameTerm -/
def pspec_SameTerm : Nat → GTerm → GTerm → Option Bool
  | 0, _, _ => none
  | k + 1, c11_, c12_ =>
    if (c11_.gKind != c12_.gKind) = true then
      some false
    else
      if (!(sEq c11_.gName c12_.gName)) = true then
        some false
      else
        if (c11_.gNum != c12_.gNum) = true then
          some false
        else
          if ((c11_.gKids.length : Int) != (c12_.gKids.length : Int)) = true then
            some false
          else
            (pspec_SameTerm_L1 k (pspec_SameTerm k) c11_ c12_ k 0).bind fun out1 => match out1 with
            | .ret r => some r
            | .done () =>
              some true
end
theorem all_pspec_SameTerm : ∀ k : Nat, (∀ {c11_ : GTerm} {c12_ : GTerm} {r : Bool}, pspec_SameTerm k c11_ c12_ = some r → FnC Try.prog 43 [.agg [.int .i64 c11_.gKind, .str c11_.gName, .int .i64 c11_.gNum, .sl (List.map GTerm.c c11_.gKids)], .agg [.int .i64 c12_.gKind, .str c12_.gName, .int .i64 c12_.gNum, .sl (List.map GTerm.c c12_.gKids)]] (.bool r) []) := by
  intro k
  induction k with
  | zero =>
    · intro c11_ c12_ r h
      exact (onone (by rw [pspec_SameTerm] at h; exact h)).elim
  | succ k ih =>
    have ih_pspec_SameTerm := @ih
    · intro c11_ c12_ r h
      rw [pspec_SameTerm] at h
      refine FnC.of Try.func43 (rfl : Try.f43.body = some _) (Nat.le_of_ble_eq_true (by kernel_rfl)) ?_
      intro w0 X0
      refine Wc.seq ?_
      refine Wc.region [] [2, 3] [2, 3] [] ⟨[(2, (.ptr 2 0, [])), (3, (.ptr 3 0, []))], [(2, ([.int .i64 c11_.gKind, .str c11_.gName, .int .i64 c11_.gNum, .sl (List.map GTerm.c c11_.gKids)], [])), (3, ([.int .i64 c12_.gKind, .str c12_.gName, .int .i64 c12_.gNum, .sl (List.map GTerm.c c12_.gKids)], []))], []⟩ _ (by kernel_rfl) .nil ?_
      refine Wc.seq ?_
      refine Wc.seq ?_
      rcases oif h with ⟨h10, h⟩ | ⟨h10, h⟩
      · refine Wc.region [((none, []), none), ((none, []), none), ((none, []), none), ((none, []), none), ((none, []), none), ((none, []), some (.bool true))] [2, 3, 33] [2, 3] [] ⟨[(2, (.ptr 2 0, [])), (3, (.ptr 3 0, [])), (33, (.v (.bool true), []))], [(2, ([.int .i64 c11_.gKind, .str c11_.gName, .int .i64 c11_.gNum, .sl (List.map GTerm.c c11_.gKids)], [])), (3, ([.int .i64 c12_.gKind, .str c12_.gName, .int .i64 c12_.gNum, .sl (List.map GTerm.c c12_.gKids)], []))], []⟩ _ (by kernel_rfl) (.cons (congrArg AV.bool h10) .nil) ?_
        refine Wc.condT rfl (by kernel_rfl) ?_
        refine Wc.seq ?_
        refine Wc.region [] [4] [] [] ⟨[(4, (.v (.bool false), []))], [], []⟩ _ (by kernel_rfl) .nil ?_
        refine Wc.ret ?_
        obtain rfl := Option.some.inj h
        exact ⟨.inl rfl, by kernel_rfl⟩
      · rcases oif h with ⟨h11, h⟩ | ⟨h11, h⟩
        · refine Wc.region [((none, []), none), ((none, []), none), ((none, []), none), ((none, []), none), ((none, []), none), ((none, []), some (.bool false)), ((none, []), none), ((none, []), none), ((none, []), none), ((none, []), none), ((none, []), none), ((none, []), none), ((none, []), some (.bool true))] [2, 3, 33] [2, 3] [] ⟨[(2, (.ptr 2 0, [])), (3, (.ptr 3 0, [])), (33, (.v (.bool true), []))], [(2, ([.int .i64 c11_.gKind, .str c11_.gName, .int .i64 c11_.gNum, .sl (List.map GTerm.c c11_.gKids)], [])), (3, ([.int .i64 c12_.gKind, .str c12_.gName, .int .i64 c12_.gNum, .sl (List.map GTerm.c c12_.gKids)], []))], []⟩ _ (by kernel_rfl) (.cons (congrArg AV.bool h10) (.cons (congrArg AV.bool h11) .nil)) ?_
          refine Wc.condT rfl (by kernel_rfl) ?_
          refine Wc.seq ?_
          refine Wc.region [] [4] [] [] ⟨[(4, (.v (.bool false), []))], [], []⟩ _ (by kernel_rfl) .nil ?_
          refine Wc.ret ?_
          obtain rfl := Option.some.inj h
          exact ⟨.inl rfl, by kernel_rfl⟩
        · rcases oif h with ⟨h12, h⟩ | ⟨h12, h⟩
          · refine Wc.region [((none, []), none), ((none, []), none), ((none, []), none), ((none, []), none), ((none, []), none), ((none, []), some (.bool false)), ((none, []), none), ((none, []), none), ((none, []), none), ((none, []), none), ((none, []), none), ((none, []), none), ((none, []), some (.bool false)), ((none, []), none), ((none, []), none), ((none, []), none), ((none, []), none), ((none, []), none), ((none, []), none), ((none, []), some (.bool true))] [2, 3, 33] [2, 3] [] ⟨[(2, (.ptr 2 0, [])), (3, (.ptr 3 0, [])), (33, (.v (.bool true), []))], [(2, ([.int .i64 c11_.gKind, .str c11_.gName, .int .i64 c11_.gNum, .sl (List.map GTerm.c c11_.gKids)], [])), (3, ([.int .i64 c12_.gKind, .str c12_.gName, .int .i64 c12_.gNum, .sl (List.map GTerm.c c12_.gKids)], []))], []⟩ _ (by kernel_rfl) (.cons (congrArg AV.bool h10) (.cons (congrArg AV.bool h11) (.cons (congrArg AV.bool h12) .nil))) ?_
            refine Wc.condT rfl (by kernel_rfl) ?_
            refine Wc.seq ?_
            refine Wc.region [] [4] [] [] ⟨[(4, (.v (.bool false), []))], [], []⟩ _ (by kernel_rfl) .nil ?_
            refine Wc.ret ?_
            obtain rfl := Option.some.inj h
            exact ⟨.inl rfl, by kernel_rfl⟩
          · refine Wc.region [((none, []), none), ((none, []), none), ((none, []), none), ((none, []), none), ((none, []), none), ((none, []), some (.bool false)), ((none, []), none), ((none, []), none), ((none, []), none), ((none, []), none), ((none, []), none), ((none, []), none), ((none, []), some (.bool false)), ((none, []), none), ((none, []), none), ((none, []), none), ((none, []), none), ((none, []), none), ((none, []), none), ((none, []), some (.bool false)), ((none, []), none), ((none, []), none), ((some (.int .i64 (c11_.gKids.length : Int)), []), none), ((none, []), none), ((none, []), none), ((some (.int .i64 (c12_.gKids.length : Int)), []), none)] [2, 3, 33] [2, 3] [] ⟨[(2, (.ptr 2 0, [])), (3, (.ptr 3 0, [])), (33, (.v (.bool ((c11_.gKids.length : Int) != (c12_.gKids.length : Int))), []))], [(2, ([.int .i64 c11_.gKind, .str c11_.gName, .int .i64 c11_.gNum, .sl (List.map GTerm.c c11_.gKids)], [])), (3, ([.int .i64 c12_.gKind, .str c12_.gName, .int .i64 c12_.gNum, .sl (List.map GTerm.c c12_.gKids)], []))], []⟩ _ (by kernel_rfl) (.cons (congrArg AV.bool h10) (.cons (congrArg AV.bool h11) (.cons (congrArg AV.bool h12) (.cons (len_obl GTerm.c c11_.gKids) (.cons (len_obl GTerm.c c12_.gKids) .nil))))) ?_
            rcases oif h with ⟨h13, h⟩ | ⟨h13, h⟩
            · refine Wc.condT h13 (by kernel_rfl) ?_
              refine Wc.seq ?_
              refine Wc.region [] [4] [] [] ⟨[(4, (.v (.bool false), []))], [], []⟩ _ (by kernel_rfl) .nil ?_
              refine Wc.ret ?_
              obtain rfl := Option.some.inj h
              exact ⟨.inl rfl, by kernel_rfl⟩
            · refine Wc.condF h13 (by kernel_rfl) ?_
              refine Wc.keep [2, 3] [2, 3] [] ⟨[(2, (.ptr 2 0, [])), (3, (.ptr 3 0, []))], [(2, ([.int .i64 c11_.gKind, .str c11_.gName, .int .i64 c11_.gNum, .sl (List.map GTerm.c c11_.gKids)], [])), (3, ([.int .i64 c12_.gKind, .str c12_.gName, .int .i64 c12_.gNum, .sl (List.map GTerm.c c12_.gKids)], []))], []⟩ (by kernel_rfl) ?_
              refine Wc.skip ?_
              refine Wc.seq ?_
              refine Wc.seq ?_
              refine Wc.region [] [2, 3, 5] [2, 3] [] ⟨[(2, (.ptr 2 0, [])), (3, (.ptr 3 0, [])), (5, (.v (.int .i64 0), []))], [(2, ([.int .i64 c11_.gKind, .str c11_.gName, .int .i64 c11_.gNum, .sl (List.map GTerm.c c11_.gKids)], [])), (3, ([.int .i64 c12_.gKind, .str c12_.gName, .int .i64 c12_.gNum, .sl (List.map GTerm.c c12_.gKids)], []))], []⟩ _ (by kernel_rfl) .nil ?_
              obtain ⟨out1, h14, h⟩ := obind h
              refine Wc.lastJ (fun st => out1 = .done () ∧ st = ⟨[], [], []⟩) ?_ ?_
              · refine Wc.block ?_
                refine Wc.loop (fun m st => ∃ (b13_ : Int), st = ⟨[(2, (.ptr 2 0, [])), (3, (.ptr 3 0, [])), (5, (.v (.int .i64 b13_), []))], [(2, ([.int .i64 c11_.gKind, .str c11_.gName, .int .i64 c11_.gNum, .sl (List.map GTerm.c c11_.gKids)], [])), (3, ([.int .i64 c12_.gKind, .str c12_.gName, .int .i64 c12_.gNum, .sl (List.map GTerm.c c12_.gKids)], []))], []⟩ ∧ pspec_SameTerm_L1 k (pspec_SameTerm k) c11_ c12_ m b13_ = some out1) ?_ k ⟨_, rfl, h14⟩
                rintro m st ⟨b13_, rfl, h14⟩
                cases m with
                | zero => exact (onone h14).elim
                | succ m =>
                  refine Wc.seq ?_
                  refine Wc.seq ?_
                  refine Wc.region [((none, []), none), ((none, []), none), ((none, []), none), ((some (.int .i64 (c11_.gKids.length : Int)), []), none)] [2, 3, 5, 38] [2, 3] [] ⟨[(2, (.ptr 2 0, [])), (3, (.ptr 3 0, [])), (5, (.v (.int .i64 b13_), [])), (38, (.v (.bool (decide (b13_ < (c11_.gKids.length : Int)))), []))], [(2, ([.int .i64 c11_.gKind, .str c11_.gName, .int .i64 c11_.gNum, .sl (List.map GTerm.c c11_.gKids)], [])), (3, ([.int .i64 c12_.gKind, .str c12_.gName, .int .i64 c12_.gNum, .sl (List.map GTerm.c c12_.gKids)], []))], []⟩ _ (by kernel_rfl) (.cons (len_obl GTerm.c c11_.gKids) .nil) ?_
                  rcases oif h14 with ⟨h15, h14⟩ | ⟨h15, h14⟩
                  · refine Wc.condT h15 (by kernel_rfl) ?_
                    refine Wc.keep [2, 3, 5] [2, 3] [] ⟨[(2, (.ptr 2 0, [])), (3, (.ptr 3 0, [])), (5, (.v (.int .i64 b13_), []))], [(2, ([.int .i64 c11_.gKind, .str c11_.gName, .int .i64 c11_.gNum, .sl (List.map GTerm.c c11_.gKids)], [])), (3, ([.int .i64 c12_.gKind, .str c12_.gName, .int .i64 c12_.gNum, .sl (List.map GTerm.c c12_.gKids)], []))], []⟩ (by kernel_rfl) ?_
                    refine Wc.skip ?_
                    refine Wc.seq ?_
                    refine Wc.block ?_
                    refine Wc.seq ?_
                    obtain ⟨c14_, h16, h14⟩ := obind h14
                    obtain ⟨c15_, h17, h14⟩ := obind h14
                    obtain ⟨d16_, h18, h14⟩ := obind h14
                    refine Wc.draw hmix [((none, []), none), ((none, []), none), ((none, []), none), ((some (.vptr [.int .i64 c14_.gKind, .str c14_.gName, .int .i64 c14_.gNum, .sl (List.map GTerm.c c14_.gKids)]), []), none), ((none, []), none), ((none, []), none), ((none, []), none), ((none, []), none), ((some (.vptr [.int .i64 c15_.gKind, .str c15_.gName, .int .i64 c15_.gNum, .sl (List.map GTerm.c c15_.gKids)]), []), none), ((none, []), none), ((some (.bool d16_), []), none)] [2, 3, 5, 52] [2, 3] [] ⟨[(2, (.ptr 2 0, [])), (3, (.ptr 3 0, [])), (5, (.v (.int .i64 b13_), [])), (52, (.v (.bool (!d16_)), []))], [(2, ([.int .i64 c11_.gKind, .str c11_.gName, .int .i64 c11_.gNum, .sl (List.map GTerm.c c11_.gKids)], [])), (3, ([.int .i64 c12_.gKind, .str c12_.gName, .int .i64 c12_.gNum, .sl (List.map GTerm.c c12_.gKids)], []))], []⟩ _ (by kernel_rfl) (.cons (at_obl (c := GTerm.c) (GTerm.c_eq c14_) GTerm.c_len h16) (.cons (len_ok 4 [.int .i64 c14_.gKind, .str c14_.gName, .int .i64 c14_.gNum, .sl (List.map GTerm.c c14_.gKids)]) (.cons (at_obl (c := GTerm.c) (GTerm.c_eq c15_) GTerm.c_len h17) (.cons (len_ok 4 [.int .i64 c15_.gKind, .str c15_.gName, .int .i64 c15_.gNum, .sl (List.map GTerm.c c15_.gKids)]) (.cons (ih_pspec_SameTerm h18) .nil))))) ?_
                    rcases oif h14 with ⟨h19, h14⟩ | ⟨h19, h14⟩
                    · refine Wc.condT h19 (by kernel_rfl) ?_
                      refine Wc.seq ?_
                      refine Wc.region [] [4] [] [] ⟨[(4, (.v (.bool false), []))], [], []⟩ _ (by kernel_rfl) .nil ?_
                      refine Wc.ret ?_
                      obtain rfl := Option.some.inj h14
                      obtain rfl := Option.some.inj h
                      exact ⟨.inl rfl, by kernel_rfl⟩
                    · refine Wc.condF h19 (by kernel_rfl) ?_
                      refine Wc.keep [2, 3, 5] [2, 3] [] ⟨[(2, (.ptr 2 0, [])), (3, (.ptr 3 0, [])), (5, (.v (.int .i64 b13_), []))], [(2, ([.int .i64 c11_.gKind, .str c11_.gName, .int .i64 c11_.gNum, .sl (List.map GTerm.c c11_.gKids)], [])), (3, ([.int .i64 c12_.gKind, .str c12_.gName, .int .i64 c12_.gNum, .sl (List.map GTerm.c c12_.gKids)], []))], []⟩ (by kernel_rfl) ?_
                      refine Wc.skip ?_
                      refine Wc.region [] [2, 3, 5] [2, 3] [] ⟨[(2, (.ptr 2 0, [])), (3, (.ptr 3 0, [])), (5, (.v (.int .i64 (wr.i64 (b13_ + 1))), []))], [(2, ([.int .i64 c11_.gKind, .str c11_.gName, .int .i64 c11_.gNum, .sl (List.map GTerm.c c11_.gKids)], [])), (3, ([.int .i64 c12_.gKind, .str c12_.gName, .int .i64 c12_.gNum, .sl (List.map GTerm.c c12_.gKids)], []))], []⟩ _ (by kernel_rfl) .nil ?_
                      exact ⟨_, Nat.lt_succ_self _, _, rfl, h14⟩
                  · refine Wc.condF h15 (by kernel_rfl) ?_
                    refine Wc.keep [] [] [] ⟨[], [], []⟩ (by kernel_rfl) ?_
                    refine Wc.exit ?_
                    obtain rfl := Option.some.inj h14
                    exact ⟨rfl, rfl⟩
              · rintro st ⟨rfl, rfl⟩
                refine Wc.seq ?_
                refine Wc.region [] [4] [] [] ⟨[(4, (.v (.bool true), []))], [], []⟩ _ (by kernel_rfl) .nil ?_
                refine Wc.ret ?_
                obtain rfl := Option.some.inj h
                exact ⟨.inl rfl, by kernel_rfl⟩
theorem cspec_SameTerm {k : Nat} {c11_ : GTerm} {c12_ : GTerm} {r : Bool} (h : pspec_SameTerm k c11_ c12_ = some r) : FnC Try.prog 43 [.agg [.int .i64 c11_.gKind, .str c11_.gName, .int .i64 c11_.gNum, .sl (List.map GTerm.c c11_.gKids)], .agg [.int .i64 c12_.gKind, .str c12_.gName, .int .i64 c12_.gNum, .sl (List.map GTerm.c c12_.gKids)]] (.bool r) [] := (all_pspec_SameTerm k) h

def pspec_TermIn_L1 (k : Nat) (a17_ : List GTerm) (c18_ : GTerm) : Nat → Int → Option (Out Int Unit)
  | 0, _ => none
  | m + 1, b19_ =>
    if (decide (b19_ < (a17_.length : Int))) = true then
      (at' a17_ b19_).bind fun c20_ =>
      (pspec_SameTerm k c20_ c18_).bind fun d21_ =>
      if d21_ = true then
        some (.ret b19_)
      else
        pspec_TermIn_L1 k a17_ c18_ m (wr.i64 (b19_ + 1))
    else
      some (.done ())
/-- spec.TermIn -/
def pspec_TermIn (k : Nat) (a17_ : List GTerm) (c18_ : GTerm) : Option Int :=
  (pspec_TermIn_L1 k a17_ c18_ k 0).bind fun out1 => match out1 with
  | .ret r => some r
  | .done () =>
    some (-1)
theorem cspec_TermIn {k : Nat} {a17_ : List GTerm} {c18_ : GTerm} {r : Int} (h : pspec_TermIn k a17_ c18_ = some r) : FnC Try.prog 22 [.sl (List.map GTerm.c a17_), .agg [.int .i64 c18_.gKind, .str c18_.gName, .int .i64 c18_.gNum, .sl (List.map GTerm.c c18_.gKids)]] (.int .i64 r) [] := by
  refine FnC.of Try.func22 (rfl : Try.f22.body = some _) (Nat.le_of_ble_eq_true (by kernel_rfl)) ?_
  intro w0 X0
  unfold pspec_TermIn at h
  refine Wc.seq ?_
  refine Wc.region [] [0, 3] [3] [] ⟨[(0, (.v (.sl (List.map GTerm.c a17_)), [])), (3, (.ptr 3 0, []))], [(3, ([.int .i64 c18_.gKind, .str c18_.gName, .int .i64 c18_.gNum, .sl (List.map GTerm.c c18_.gKids)], []))], []⟩ _ (by kernel_rfl) .nil ?_
  refine Wc.seq ?_
  refine Wc.seq ?_
  refine Wc.region [] [0, 3, 5] [3] [] ⟨[(0, (.v (.sl (List.map GTerm.c a17_)), [])), (3, (.ptr 3 0, [])), (5, (.v (.int .i64 0), []))], [(3, ([.int .i64 c18_.gKind, .str c18_.gName, .int .i64 c18_.gNum, .sl (List.map GTerm.c c18_.gKids)], []))], []⟩ _ (by kernel_rfl) .nil ?_
  obtain ⟨out1, h20, h⟩ := obind h
  refine Wc.lastJ (fun st => out1 = .done () ∧ st = ⟨[], [], []⟩) ?_ ?_
  · refine Wc.block ?_
    refine Wc.loop (fun m st => ∃ (b19_ : Int), st = ⟨[(0, (.v (.sl (List.map GTerm.c a17_)), [])), (3, (.ptr 3 0, [])), (5, (.v (.int .i64 b19_), []))], [(3, ([.int .i64 c18_.gKind, .str c18_.gName, .int .i64 c18_.gNum, .sl (List.map GTerm.c c18_.gKids)], []))], []⟩ ∧ pspec_TermIn_L1 k a17_ c18_ m b19_ = some out1) ?_ k ⟨_, rfl, h20⟩
    rintro m st ⟨b19_, rfl, h20⟩
    cases m with
    | zero => exact (onone h20).elim
    | succ m =>
      refine Wc.seq ?_
      refine Wc.seq ?_
      refine Wc.region [((none, []), none), ((none, []), none), ((some (.int .i64 (a17_.length : Int)), []), none)] [0, 3, 5, 9] [3] [] ⟨[(0, (.v (.sl (List.map GTerm.c a17_)), [])), (3, (.ptr 3 0, [])), (5, (.v (.int .i64 b19_), [])), (9, (.v (.bool (decide (b19_ < (a17_.length : Int)))), []))], [(3, ([.int .i64 c18_.gKind, .str c18_.gName, .int .i64 c18_.gNum, .sl (List.map GTerm.c c18_.gKids)], []))], []⟩ _ (by kernel_rfl) (.cons (len_obl GTerm.c a17_) .nil) ?_
      rcases oif h20 with ⟨h21, h20⟩ | ⟨h21, h20⟩
      · refine Wc.condT h21 (by kernel_rfl) ?_
        refine Wc.keep [0, 3, 5] [3] [] ⟨[(0, (.v (.sl (List.map GTerm.c a17_)), [])), (3, (.ptr 3 0, [])), (5, (.v (.int .i64 b19_), []))], [(3, ([.int .i64 c18_.gKind, .str c18_.gName, .int .i64 c18_.gNum, .sl (List.map GTerm.c c18_.gKids)], []))], []⟩ (by kernel_rfl) ?_
        refine Wc.skip ?_
        refine Wc.seq ?_
        refine Wc.block ?_
        refine Wc.seq ?_
        obtain ⟨c20_, h22, h20⟩ := obind h20
        obtain ⟨d21_, h23, h20⟩ := obind h20
        refine Wc.draw hmix [((none, []), none), ((none, []), none), ((some (.vptr [.int .i64 c20_.gKind, .str c20_.gName, .int .i64 c20_.gNum, .sl (List.map GTerm.c c20_.gKids)]), []), none), ((none, []), none), ((none, []), none), ((some (.bool d21_), []), none)] [0, 3, 5, 17] [3] [] ⟨[(0, (.v (.sl (List.map GTerm.c a17_)), [])), (3, (.ptr 3 0, [])), (5, (.v (.int .i64 b19_), [])), (17, (.v (.bool d21_), []))], [(3, ([.int .i64 c18_.gKind, .str c18_.gName, .int .i64 c18_.gNum, .sl (List.map GTerm.c c18_.gKids)], []))], []⟩ _ (by kernel_rfl) (.cons (at_obl (c := GTerm.c) (GTerm.c_eq c20_) GTerm.c_len h22) (.cons (len_ok 4 [.int .i64 c20_.gKind, .str c20_.gName, .int .i64 c20_.gNum, .sl (List.map GTerm.c c20_.gKids)]) (.cons (cspec_SameTerm h23) .nil))) ?_
        rcases oif h20 with ⟨h24, h20⟩ | ⟨h24, h20⟩
        · refine Wc.condT h24 (by kernel_rfl) ?_
          refine Wc.seq ?_
          refine Wc.region [] [4] [] [] ⟨[(4, (.v (.int .i64 b19_), []))], [], []⟩ _ (by kernel_rfl) .nil ?_
          refine Wc.ret ?_
          obtain rfl := Option.some.inj h20
          obtain rfl := Option.some.inj h
          exact ⟨.inl rfl, by kernel_rfl⟩
        · refine Wc.condF h24 (by kernel_rfl) ?_
          refine Wc.keep [0, 3, 5] [3] [] ⟨[(0, (.v (.sl (List.map GTerm.c a17_)), [])), (3, (.ptr 3 0, [])), (5, (.v (.int .i64 b19_), []))], [(3, ([.int .i64 c18_.gKind, .str c18_.gName, .int .i64 c18_.gNum, .sl (List.map GTerm.c c18_.gKids)], []))], []⟩ (by kernel_rfl) ?_
          refine Wc.skip ?_
          refine Wc.region [] [0, 3, 5] [3] [] ⟨[(0, (.v (.sl (List.map GTerm.c a17_)), [])), (3, (.ptr 3 0, [])), (5, (.v (.int .i64 (wr.i64 (b19_ + 1))), []))], [(3, ([.int .i64 c18_.gKind, .str c18_.gName, .int .i64 c18_.gNum, .sl (List.map GTerm.c c18_.gKids)], []))], []⟩ _ (by kernel_rfl) .nil ?_
          exact ⟨_, Nat.lt_succ_self _, _, rfl, h20⟩
      · refine Wc.condF h21 (by kernel_rfl) ?_
        refine Wc.keep [] [] [] ⟨[], [], []⟩ (by kernel_rfl) ?_
        refine Wc.exit ?_
        obtain rfl := Option.some.inj h20
        exact ⟨rfl, rfl⟩
  · rintro st ⟨rfl, rfl⟩
    refine Wc.seq ?_
    refine Wc.region [] [4] [] [] ⟨[(4, (.v (.int .i64 (-1)), []))], [], []⟩ _ (by kernel_rfl) .nil ?_
    refine Wc.ret ?_
    obtain rfl := Option.some.inj h
    exact ⟨.inl rfl, by kernel_rfl⟩

def plaws_toTermS_L1 (k : Nat) (rlaws_toTermS : (List GTerm) → Option (List GTerm)) (rlaws_toTerm : GTerm → Option GTerm) (a22_ : List GTerm) : Nat → Int → (List GTerm) → Option (Out (List GTerm) (List GTerm))
  | 0, _, _ => none
  | m + 1, b23_, a24_ =>
    if (decide (b23_ < (a22_.length : Int))) = true then
      (at' a22_ b23_).bind fun c26_ =>
      (rlaws_toTerm c26_).bind fun c27_ =>
      if 0 ≤ b23_ ∧ (b23_).toNat < a24_.length then
        plaws_toTermS_L1 k rlaws_toTermS rlaws_toTerm a22_ m (wr.i64 (b23_ + 1)) (a24_.set ((b23_).toNat) c27_)
      else none
    else
      some (.done a24_)
mutual
/-- laws.toTermS -/
def plaws_toTermS : Nat → (List GTerm) → Option (List GTerm)
  | 0, _ => none
  | k + 1, a22_ =>
    if 0 ≤ (a22_.length : Int) ∧ (a22_.length : Int) ≤ 1073741824 then
      (plaws_toTermS_L1 k (plaws_toTermS k) (plaws_toTerm k) a22_ k 0 (List.replicate ((a22_.length : Int)).toNat (GTerm.mk 0 (bs []) 0 []))).bind fun out1 => match out1 with
      | .ret r => some r
      | .done a25_ =>
        some a25_
    else none
/-- laws.toTerm -/
def plaws_toTerm : Nat → GTerm → Option GTerm
  | 0, _ => none
  | k + 1, c28_ =>
    (plaws_toTermS k c28_.gKids).bind fun a29_ =>
    some (GTerm.mk c28_.gKind c28_.gName c28_.gNum a29_)
end
theorem all_plaws_toTermS : ∀ k : Nat, (∀ {a22_ : List GTerm} {r : List GTerm}, plaws_toTermS k a22_ = some r → FnC Try.prog 23 [.sl (List.map GTerm.c a22_)] (.sl (List.map GTerm.c r)) []) ∧
    (∀ {c28_ : GTerm} {r : GTerm}, plaws_toTerm k c28_ = some r → FnC Try.prog 24 [.agg [.int .i64 c28_.gKind, .str c28_.gName, .int .i64 c28_.gNum, .sl (List.map GTerm.c c28_.gKids)]] (.agg [.int .i64 r.gKind, .str r.gName, .int .i64 r.gNum, .sl (List.map GTerm.c r.gKids)]) []) := by
  intro k
  induction k with
  | zero =>
    refine ⟨?_, ?_⟩
    · intro a22_ r h
      exact (onone (by rw [plaws_toTermS] at h; exact h)).elim
    · intro c28_ r h
      exact (onone (by rw [plaws_toTerm] at h; exact h)).elim
  | succ k ih =>
    obtain ⟨ih_plaws_toTermS, ih_plaws_toTerm⟩ := ih
    refine ⟨?_, ?_⟩
    · intro a22_ r h
      rw [plaws_toTermS] at h
      refine FnC.of Try.func23 (rfl : Try.f23.body = some _) (Nat.le_of_ble_eq_true (by kernel_rfl)) ?_
      intro w0 X0
      refine Wc.seq ?_
      refine Wc.region [((none, []), some (.sl (List.map GTerm.c [])))] [0] [] [] ⟨[(0, (.v (.sl (List.map GTerm.c a22_)), []))], [], []⟩ _ (by kernel_rfl) (.cons (nil_re GTerm.c) .nil) ?_
      refine Wc.seq ?_
      obtain ⟨h25, h⟩ := oguard h
      refine Wc.region [((none, []), none), ((some (.int .i64 (a22_.length : Int)), []), none)] [0, 3] [] [7] ⟨[(0, (.v (.sl (List.map GTerm.c a22_)), [])), (3, (.arr 7, []))], [], [(7, (4, List.replicate ((a22_.length : Int)).toNat [.int .i64 0, .str (bs []), .int .i64 0, .sl (List.map GTerm.c [])]))]⟩ _ (by kernel_rfl) (.cons (len_obl GTerm.c a22_) (.cons (ms_obl h25) .nil)) ?_
      refine Wc.re (congrArg (St.mk _ _) ((rc_re (rep_re (c := GTerm.c) (GTerm.c_eq (GTerm.mk 0 (bs []) 0 [])) _) rfl) : _ = [(7, (4, List.map GTerm.c (List.replicate ((a22_.length : Int)).toNat (GTerm.mk 0 (bs []) 0 []))))])) ?_
      refine Wc.seq ?_
      refine Wc.seq ?_
      refine Wc.region [] [0, 3, 4] [] [7] ⟨[(0, (.v (.sl (List.map GTerm.c a22_)), [])), (3, (.arr 7, [])), (4, (.v (.int .i64 0), []))], [], [(7, (4, List.map GTerm.c (List.replicate ((a22_.length : Int)).toNat (GTerm.mk 0 (bs []) 0 []))))]⟩ _ (by kernel_rfl) .nil ?_
      obtain ⟨out1, h26, h⟩ := obind h
      refine Wc.lastJ (fun st => ∃ (a25_ : List GTerm), out1 = .done a25_ ∧ st = ⟨[(3, (.arr 7, []))], [], [(7, (4, List.map GTerm.c a25_))]⟩) ?_ ?_
      · refine Wc.block ?_
        refine Wc.loop (fun m st => ∃ (b23_ : Int) (a24_ : List GTerm), st = ⟨[(0, (.v (.sl (List.map GTerm.c a22_)), [])), (3, (.arr 7, [])), (4, (.v (.int .i64 b23_), []))], [], [(7, (4, List.map GTerm.c a24_))]⟩ ∧ plaws_toTermS_L1 k (plaws_toTermS k) (plaws_toTerm k) a22_ m b23_ a24_ = some out1) ?_ k ⟨_, _, rfl, h26⟩
        rintro m st ⟨b23_, a24_, rfl, h26⟩
        cases m with
        | zero => exact (onone h26).elim
        | succ m =>
          refine Wc.seq ?_
          refine Wc.seq ?_
          refine Wc.region [((none, []), none), ((none, []), none), ((some (.int .i64 (a22_.length : Int)), []), none)] [0, 3, 4, 11] [] [7] ⟨[(0, (.v (.sl (List.map GTerm.c a22_)), [])), (3, (.arr 7, [])), (4, (.v (.int .i64 b23_), [])), (11, (.v (.bool (decide (b23_ < (a22_.length : Int)))), []))], [], [(7, (4, List.map GTerm.c a24_))]⟩ _ (by kernel_rfl) (.cons (len_obl GTerm.c a22_) .nil) ?_
          rcases oif h26 with ⟨h27, h26⟩ | ⟨h27, h26⟩
          · refine Wc.condT h27 (by kernel_rfl) ?_
            refine Wc.keep [0, 3, 4] [] [7] ⟨[(0, (.v (.sl (List.map GTerm.c a22_)), [])), (3, (.arr 7, [])), (4, (.v (.int .i64 b23_), []))], [], [(7, (4, List.map GTerm.c a24_))]⟩ (by kernel_rfl) ?_
            refine Wc.skip ?_
            refine Wc.seq ?_
            refine Wc.block ?_
            obtain ⟨c26_, h28, h26⟩ := obind h26
            obtain ⟨c27_, h29, h26⟩ := obind h26
            obtain ⟨h30, h26⟩ := oguard h26
            refine Wc.region [((none, []), none), ((none, []), none), ((none, []), none), ((none, []), none), ((some (.vptr [.int .i64 c26_.gKind, .str c26_.gName, .int .i64 c26_.gNum, .sl (List.map GTerm.c c26_.gKids)]), []), none), ((none, []), none), ((some (.agg [.int .i64 c27_.gKind, .str c27_.gName, .int .i64 c27_.gNum, .sl (List.map GTerm.c c27_.gKids)]), []), none)] [0, 3, 4] [] [7] ⟨[(0, (.v (.sl (List.map GTerm.c a22_)), [])), (3, (.arr 7, [])), (4, (.v (.int .i64 b23_), []))], [], [(7, (4, (List.map GTerm.c a24_).modify ((b23_).toNat) (fun c => setAll c 0 [.int .i64 c27_.gKind, .str c27_.gName, .int .i64 c27_.gNum, .sl (List.map GTerm.c c27_.gKids)])))]⟩ _ (by kernel_rfl) (.cons (at_obl (c := GTerm.c) (GTerm.c_eq c26_) GTerm.c_len h28) (.cons (len_ok 4 [.int .i64 c26_.gKind, .str c26_.gName, .int .i64 c26_.gNum, .sl (List.map GTerm.c c26_.gKids)]) (.cons (ih_plaws_toTerm h29) (.cons (arr_obl (c := GTerm.c) h30) (.cons (arr_obl (c := GTerm.c) h30).2 .nil))))) ?_
            refine Wc.re (congrArg (St.mk _ _) ((rc_re (mod_re (c := GTerm.c) (GTerm.c_eq c27_) GTerm.c_len _ _) rfl) : _ = [(7, (4, List.map GTerm.c (a24_.set ((b23_).toNat) c27_)))])) ?_
            refine Wc.region [] [0, 3, 4] [] [7] ⟨[(0, (.v (.sl (List.map GTerm.c a22_)), [])), (3, (.arr 7, [])), (4, (.v (.int .i64 (wr.i64 (b23_ + 1))), []))], [], [(7, (4, List.map GTerm.c (a24_.set ((b23_).toNat) c27_)))]⟩ _ (by kernel_rfl) .nil ?_
            exact ⟨_, Nat.lt_succ_self _, _, _, rfl, h26⟩
          · refine Wc.condF h27 (by kernel_rfl) ?_
            refine Wc.keep [3] [] [7] ⟨[(3, (.arr 7, []))], [], [(7, (4, List.map GTerm.c a24_))]⟩ (by kernel_rfl) ?_
            refine Wc.exit ?_
            obtain rfl := Option.some.inj h26
            exact ⟨_, rfl, rfl⟩
      · rintro st ⟨a25_, rfl, rfl⟩
        refine Wc.seq ?_
        refine Wc.region [] [2] [] [7] ⟨[(2, (.arr 7, []))], [], [(7, (4, List.map GTerm.c a25_))]⟩ _ (by kernel_rfl) .nil ?_
        refine Wc.ret ?_
        obtain rfl := Option.some.inj h
        exact ⟨.inl rfl, by kernel_rfl⟩
    · intro c28_ r h
      rw [plaws_toTerm] at h
      refine FnC.of Try.func24 (rfl : Try.f24.body = some _) (Nat.le_of_ble_eq_true (by kernel_rfl)) ?_
      intro w0 X0
      refine Wc.seq ?_
      refine Wc.region [] [1, 2] [1, 2] [] ⟨[(1, (.ptr 1 0, [])), (2, (.ptr 2 0, []))], [(1, ([.int .i64 c28_.gKind, .str c28_.gName, .int .i64 c28_.gNum, .sl (List.map GTerm.c c28_.gKids)], [])), (2, ([.int .i64 0, .str (bs []), .int .i64 0, .sl (List.map GTerm.c [])], [(3, 48)]))], []⟩ _ (by kernel_rfl) .nil ?_
      refine Wc.seq ?_
      refine Wc.region [] [1, 2, 3] [1, 2, 3] [] ⟨[(1, (.ptr 1 0, [])), (2, (.ptr 2 0, [])), (3, (.ptr 3 0, []))], [(1, ([.int .i64 c28_.gKind, .str c28_.gName, .int .i64 c28_.gNum, .sl (List.map GTerm.c c28_.gKids)], [])), (2, ([.int .i64 0, .str (bs []), .int .i64 0, .sl (List.map GTerm.c [])], [(3, 48)])), (3, ([.int .i64 0, .str (bs []), .int .i64 0, .sl (List.map GTerm.c [])], [(3, 48)]))], []⟩ _ (by kernel_rfl) .nil ?_
      refine Wc.seq ?_
      refine Wc.region [] [1, 2, 3] [1, 2, 3] [] ⟨[(1, (.ptr 1 0, [])), (2, (.ptr 2 0, [])), (3, (.ptr 3 0, []))], [(1, ([.int .i64 c28_.gKind, .str c28_.gName, .int .i64 c28_.gNum, .sl (List.map GTerm.c c28_.gKids)], [])), (2, ([.int .i64 0, .str (bs []), .int .i64 0, .sl (List.map GTerm.c [])], [(3, 48)])), (3, ([.int .i64 c28_.gKind, .str (bs []), .int .i64 0, .sl (List.map GTerm.c [])], [(3, 48)]))], []⟩ _ (by kernel_rfl) .nil ?_
      refine Wc.seq ?_
      refine Wc.region [] [1, 2, 3] [1, 2, 3] [] ⟨[(1, (.ptr 1 0, [])), (2, (.ptr 2 0, [])), (3, (.ptr 3 0, []))], [(1, ([.int .i64 c28_.gKind, .str c28_.gName, .int .i64 c28_.gNum, .sl (List.map GTerm.c c28_.gKids)], [])), (2, ([.int .i64 0, .str (bs []), .int .i64 0, .sl (List.map GTerm.c [])], [(3, 48)])), (3, ([.int .i64 c28_.gKind, .str c28_.gName, .int .i64 0, .sl (List.map GTerm.c [])], [(3, 48)]))], []⟩ _ (by kernel_rfl) .nil ?_
      refine Wc.seq ?_
      refine Wc.region [] [1, 2, 3] [1, 2, 3] [] ⟨[(1, (.ptr 1 0, [])), (2, (.ptr 2 0, [])), (3, (.ptr 3 0, []))], [(1, ([.int .i64 c28_.gKind, .str c28_.gName, .int .i64 c28_.gNum, .sl (List.map GTerm.c c28_.gKids)], [])), (2, ([.int .i64 0, .str (bs []), .int .i64 0, .sl (List.map GTerm.c [])], [(3, 48)])), (3, ([.int .i64 c28_.gKind, .str c28_.gName, .int .i64 c28_.gNum, .sl (List.map GTerm.c [])], [(3, 48)]))], []⟩ _ (by kernel_rfl) .nil ?_
      refine Wc.seq ?_
      obtain ⟨a29_, h31, h⟩ := obind h
      refine Wc.region [((none, []), none), ((none, []), none), ((some (.sl (List.map GTerm.c a29_)), []), none)] [2, 3] [2, 3] [] ⟨[(2, (.ptr 2 0, [])), (3, (.ptr 3 0, []))], [(2, ([.int .i64 0, .str (bs []), .int .i64 0, .sl (List.map GTerm.c [])], [(3, 48)])), (3, ([.int .i64 c28_.gKind, .str c28_.gName, .int .i64 c28_.gNum, .sl (List.map GTerm.c a29_)], []))], []⟩ _ (by kernel_rfl) (.cons (ih_plaws_toTermS h31) .nil) ?_
      refine Wc.seq ?_
      refine Wc.region [] [2] [2] [] ⟨[(2, (.ptr 2 0, []))], [(2, ([.int .i64 c28_.gKind, .str c28_.gName, .int .i64 c28_.gNum, .sl (List.map GTerm.c a29_)], []))], []⟩ _ (by kernel_rfl) .nil ?_
      refine Wc.ret ?_
      obtain rfl := Option.some.inj h
      exact ⟨.inl rfl, by kernel_rfl⟩
theorem claws_toTermS {k : Nat} {a22_ : List GTerm} {r : List GTerm} (h : plaws_toTermS k a22_ = some r) : FnC Try.prog 23 [.sl (List.map GTerm.c a22_)] (.sl (List.map GTerm.c r)) [] := (all_plaws_toTermS k).1 h
theorem claws_toTerm {k : Nat} {c28_ : GTerm} {r : GTerm} (h : plaws_toTerm k c28_ = some r) : FnC Try.prog 24 [.agg [.int .i64 c28_.gKind, .str c28_.gName, .int .i64 c28_.gNum, .sl (List.map GTerm.c c28_.gKids)]] (.agg [.int .i64 r.gKind, .str r.gName, .int .i64 r.gNum, .sl (List.map GTerm.c r.gKids)]) [] := (all_plaws_toTermS k).2 h

def pslices_EqualFunc___impl_Term___impl_Term_impl_Term_impl_Term__on2_pimpl_SameTerm_L1 (k : Nat) (rimpl_SameTerm : GTerm → GTerm → Option Bool) (a40_ : List GTerm) (a41_ : List GTerm) : Nat → Int → Option (Out Bool Unit)
  | 0, _ => none
  | m + 1, b42_ =>
    if (decide (b42_ < (a40_.length : Int))) = true then
      (at' a40_ b42_).bind fun c43_ =>
      (at' a41_ b42_).bind fun c44_ =>
      (rimpl_SameTerm c43_ c44_).bind fun d45_ =>
      if (!d45_) = true then
        some (.ret false)
      else
        pslices_EqualFunc___impl_Term___impl_Term_impl_Term_impl_Term__on2_pimpl_SameTerm_L1 k rimpl_SameTerm a40_ a41_ m (wr.i64 (b42_ + 1))
    else
      some (.done ())
/-- slices.EqualFunc[[]impl.Term,[]impl.Term,impl.Term,impl.Term] -/
def pslices_EqualFunc___impl_Term___impl_Term_impl_Term_impl_Term__on2_pimpl_SameTerm (k : Nat) (rimpl_SameTerm : GTerm → GTerm → Option Bool) (a40_ : List GTerm) (a41_ : List GTerm) : Option Bool :=
  if ((a40_.length : Int) != (a41_.length : Int)) = true then
    some false
  else
    (pslices_EqualFunc___impl_Term___impl_Term_impl_Term_impl_Term__on2_pimpl_SameTerm_L1 k rimpl_SameTerm a40_ a41_ k 0).bind fun out1 => match out1 with
    | .ret r => some r
    | .done () =>
      some true
theorem cslices_EqualFunc___impl_Term___impl_Term_impl_Term_impl_Term__on2_pimpl_SameTerm {k : Nat} {rimpl_SameTerm : GTerm → GTerm → Option Bool} (ih_pimpl_SameTerm : ∀ {y0 : GTerm} {y1 : GTerm} {r : Bool}, rimpl_SameTerm y0 y1 = some r → FnC Try.prog 46 [.agg [.int .i64 y0.gKind, .str y0.gName, .int .i64 y0.gNum, .sl (List.map GTerm.c y0.gKids)], .agg [.int .i64 y1.gKind, .str y1.gName, .int .i64 y1.gNum, .sl (List.map GTerm.c y1.gKids)]] (.bool r) []) {a40_ : List GTerm} {a41_ : List GTerm} {r : Bool} (h : pslices_EqualFunc___impl_Term___impl_Term_impl_Term_impl_Term__on2_pimpl_SameTerm k rimpl_SameTerm a40_ a41_ = some r) : FnC Try.prog 62 [.sl (List.map GTerm.c a40_), .sl (List.map GTerm.c a41_), .func 46 []] (.bool r) [] := by
  refine FnC.of Try.func62 (rfl : Try.f62.body = some _) (Nat.le_of_ble_eq_true (by kernel_rfl)) ?_
  intro w0 X0
  unfold pslices_EqualFunc___impl_Term___impl_Term_impl_Term_impl_Term__on2_pimpl_SameTerm at h
  refine Wc.seq ?_
  refine Wc.region [] [0, 1, 2] [] [] ⟨[(0, (.v (.sl (List.map GTerm.c a40_)), [])), (1, (.v (.sl (List.map GTerm.c a41_)), [])), (2, (.v (.func 46 []), []))], [], []⟩ _ (by kernel_rfl) .nil ?_
  refine Wc.seq ?_
  refine Wc.seq ?_
  refine Wc.region [((none, []), none), ((some (.int .i64 (a40_.length : Int)), []), none), ((none, []), none), ((some (.int .i64 (a41_.length : Int)), []), none)] [0, 1, 2, 14] [] [] ⟨[(0, (.v (.sl (List.map GTerm.c a40_)), [])), (1, (.v (.sl (List.map GTerm.c a41_)), [])), (2, (.v (.func 46 []), [])), (14, (.v (.bool ((a40_.length : Int) != (a41_.length : Int))), []))], [], []⟩ _ (by kernel_rfl) (.cons (len_obl GTerm.c a40_) (.cons (len_obl GTerm.c a41_) .nil)) ?_
  rcases oif h with ⟨h37, h⟩ | ⟨h37, h⟩
  · refine Wc.condT h37 (by kernel_rfl) ?_
    refine Wc.seq ?_
    refine Wc.region [] [6] [] [] ⟨[(6, (.v (.bool false), []))], [], []⟩ _ (by kernel_rfl) .nil ?_
    refine Wc.ret ?_
    obtain rfl := Option.some.inj h
    exact ⟨.inl rfl, by kernel_rfl⟩
  · refine Wc.condF h37 (by kernel_rfl) ?_
    refine Wc.keep [0, 1, 2] [] [] ⟨[(0, (.v (.sl (List.map GTerm.c a40_)), [])), (1, (.v (.sl (List.map GTerm.c a41_)), [])), (2, (.v (.func 46 []), []))], [], []⟩ (by kernel_rfl) ?_
    refine Wc.skip ?_
    refine Wc.seq ?_
    refine Wc.seq ?_
    refine Wc.region [((none, []), none), ((some (.int .i64 (a40_.length : Int)), []), none)] [1, 2, 15, 16, 17] [] [] ⟨[(1, (.v (.sl (List.map GTerm.c a41_)), [])), (2, (.v (.func 46 []), [])), (15, (.v (.sl (List.map GTerm.c a40_)), [])), (16, (.v (.int .i64 (a40_.length : Int)), [])), (17, (.v (.int .i64 0), []))], [], []⟩ _ (by kernel_rfl) (.cons (len_obl GTerm.c a40_) .nil) ?_
    obtain ⟨out1, h38, h⟩ := obind h
    refine Wc.lastJ (fun st => out1 = .done () ∧ st = ⟨[], [], []⟩) ?_ ?_
    · refine Wc.block ?_
      refine Wc.loop (fun m st => ∃ (b42_ : Int), st = ⟨[(1, (.v (.sl (List.map GTerm.c a41_)), [])), (2, (.v (.func 46 []), [])), (15, (.v (.sl (List.map GTerm.c a40_)), [])), (16, (.v (.int .i64 (a40_.length : Int)), [])), (17, (.v (.int .i64 b42_), []))], [], []⟩ ∧ pslices_EqualFunc___impl_Term___impl_Term_impl_Term_impl_Term__on2_pimpl_SameTerm_L1 k rimpl_SameTerm a40_ a41_ m b42_ = some out1) ?_ k ⟨_, rfl, h38⟩
      rintro m st ⟨b42_, rfl, h38⟩
      cases m with
      | zero => exact (onone h38).elim
      | succ m =>
        refine Wc.seq ?_
        refine Wc.region [] [1, 2, 15, 16, 17, 18] [] [] ⟨[(1, (.v (.sl (List.map GTerm.c a41_)), [])), (2, (.v (.func 46 []), [])), (15, (.v (.sl (List.map GTerm.c a40_)), [])), (16, (.v (.int .i64 (a40_.length : Int)), [])), (17, (.v (.int .i64 b42_), [])), (18, (.v (.bool (decide (b42_ < (a40_.length : Int)))), []))], [], []⟩ _ (by kernel_rfl) .nil ?_
        refine Wc.seq ?_
        rcases oif h38 with ⟨h39, h38⟩ | ⟨h39, h38⟩
        · refine Wc.condT h39 (by kernel_rfl) ?_
          refine Wc.keep [1, 2, 15, 16, 17] [] [] ⟨[(1, (.v (.sl (List.map GTerm.c a41_)), [])), (2, (.v (.func 46 []), [])), (15, (.v (.sl (List.map GTerm.c a40_)), [])), (16, (.v (.int .i64 (a40_.length : Int)), [])), (17, (.v (.int .i64 b42_), []))], [], []⟩ (by kernel_rfl) ?_
          refine Wc.skip ?_
          refine Wc.seq ?_
          refine Wc.block ?_
          refine Wc.seq ?_
          obtain ⟨c43_, h40, h38⟩ := obind h38
          refine Wc.region [((none, []), none), ((some (.vptr [.int .i64 c43_.gKind, .str c43_.gName, .int .i64 c43_.gNum, .sl (List.map GTerm.c c43_.gKids)]), []), none)] [1, 2, 7, 8, 15, 16, 17] [8] [] ⟨[(1, (.v (.sl (List.map GTerm.c a41_)), [])), (2, (.v (.func 46 []), [])), (7, (.v (.int .i64 b42_), [])), (8, (.ptr 8 0, [])), (15, (.v (.sl (List.map GTerm.c a40_)), [])), (16, (.v (.int .i64 (a40_.length : Int)), [])), (17, (.v (.int .i64 b42_), []))], [(8, ([.int .i64 c43_.gKind, .str c43_.gName, .int .i64 c43_.gNum, .sl (List.map GTerm.c c43_.gKids)], []))], []⟩ _ (by kernel_rfl) (.cons (at_obl (c := GTerm.c) (GTerm.c_eq c43_) GTerm.c_len h40) (.cons (len_ok 4 [.int .i64 c43_.gKind, .str c43_.gName, .int .i64 c43_.gNum, .sl (List.map GTerm.c c43_.gKids)]) .nil)) ?_
          refine Wc.seq ?_
          obtain ⟨c44_, h41, h38⟩ := obind h38
          refine Wc.region [((none, []), none), ((none, []), none), ((some (.vptr [.int .i64 c44_.gKind, .str c44_.gName, .int .i64 c44_.gNum, .sl (List.map GTerm.c c44_.gKids)]), []), none)] [1, 2, 8, 9, 15, 16, 17] [8, 9] [] ⟨[(1, (.v (.sl (List.map GTerm.c a41_)), [])), (2, (.v (.func 46 []), [])), (8, (.ptr 8 0, [])), (9, (.ptr 9 0, [])), (15, (.v (.sl (List.map GTerm.c a40_)), [])), (16, (.v (.int .i64 (a40_.length : Int)), [])), (17, (.v (.int .i64 b42_), []))], [(8, ([.int .i64 c43_.gKind, .str c43_.gName, .int .i64 c43_.gNum, .sl (List.map GTerm.c c43_.gKids)], [])), (9, ([.int .i64 c44_.gKind, .str c44_.gName, .int .i64 c44_.gNum, .sl (List.map GTerm.c c44_.gKids)], []))], []⟩ _ (by kernel_rfl) (.cons (at_obl (c := GTerm.c) (GTerm.c_eq c44_) GTerm.c_len h41) (.cons (len_ok 4 [.int .i64 c44_.gKind, .str c44_.gName, .int .i64 c44_.gNum, .sl (List.map GTerm.c c44_.gKids)]) .nil)) ?_
          refine Wc.seq ?_
          obtain ⟨d45_, h42, h38⟩ := obind h38
          refine Wc.region [((none, []), none), ((none, []), none), ((none, []), none), ((some (.bool d45_), []), none)] [1, 2, 15, 16, 17, 30] [] [] ⟨[(1, (.v (.sl (List.map GTerm.c a41_)), [])), (2, (.v (.func 46 []), [])), (15, (.v (.sl (List.map GTerm.c a40_)), [])), (16, (.v (.int .i64 (a40_.length : Int)), [])), (17, (.v (.int .i64 b42_), [])), (30, (.v (.bool (!d45_)), []))], [], []⟩ _ (by kernel_rfl) (.cons (ih_pimpl_SameTerm h42) .nil) ?_
          rcases oif h38 with ⟨h43, h38⟩ | ⟨h43, h38⟩
          · refine Wc.condT h43 (by kernel_rfl) ?_
            refine Wc.seq ?_
            refine Wc.region [] [6] [] [] ⟨[(6, (.v (.bool false), []))], [], []⟩ _ (by kernel_rfl) .nil ?_
            refine Wc.ret ?_
            obtain rfl := Option.some.inj h38
            obtain rfl := Option.some.inj h
            exact ⟨.inl rfl, by kernel_rfl⟩
          · refine Wc.condF h43 (by kernel_rfl) ?_
            refine Wc.keep [1, 2, 15, 16, 17] [] [] ⟨[(1, (.v (.sl (List.map GTerm.c a41_)), [])), (2, (.v (.func 46 []), [])), (15, (.v (.sl (List.map GTerm.c a40_)), [])), (16, (.v (.int .i64 (a40_.length : Int)), [])), (17, (.v (.int .i64 b42_), []))], [], []⟩ (by kernel_rfl) ?_
            refine Wc.skip ?_
            refine Wc.region [] [1, 2, 15, 16, 17] [] [] ⟨[(1, (.v (.sl (List.map GTerm.c a41_)), [])), (2, (.v (.func 46 []), [])), (15, (.v (.sl (List.map GTerm.c a40_)), [])), (16, (.v (.int .i64 (a40_.length : Int)), [])), (17, (.v (.int .i64 (wr.i64 (b42_ + 1))), []))], [], []⟩ _ (by kernel_rfl) .nil ?_
            exact ⟨_, Nat.lt_succ_self _, _, rfl, h38⟩
        · refine Wc.condF h39 (by kernel_rfl) ?_
          refine Wc.keep [] [] [] ⟨[], [], []⟩ (by kernel_rfl) ?_
          refine Wc.exit ?_
          obtain rfl := Option.some.inj h38
          exact ⟨rfl, rfl⟩
    · rintro st ⟨rfl, rfl⟩
      refine Wc.seq ?_
      refine Wc.region [] [6] [] [] ⟨[(6, (.v (.bool true), []))], [], []⟩ _ (by kernel_rfl) .nil ?_
      refine Wc.ret ?_
      obtain rfl := Option.some.inj h
      exact ⟨.inl rfl, by kernel_rfl⟩

mutual
/-- impl.SameTerm -/
def pimpl_SameTerm : Nat → GTerm → GTerm → Option Bool
  | 0, _, _ => none
  | k + 1, c38_, c39_ =>
    if (c38_.gKind == c39_.gKind) = true then
      if (sEq c38_.gName c39_.gName) = true then
        if (c38_.gNum == c39_.gNum) = true then
          (pslices_EqualFunc___impl_Term___impl_Term_impl_Term_impl_Term__on2_pimpl_SameTerm k (pimpl_SameTerm k) c38_.gKids c39_.gKids).bind fun d46_ =>
          some d46_
        else
          some false
      else
        some false
    else
      some false
end
theorem all_pimpl_SameTerm : ∀ k : Nat, (∀ {c38_ : GTerm} {c39_ : GTerm} {r : Bool}, pimpl_SameTerm k c38_ c39_ = some r → FnC Try.prog 46 [.agg [.int .i64 c38_.gKind, .str c38_.gName, .int .i64 c38_.gNum, .sl (List.map GTerm.c c38_.gKids)], .agg [.int .i64 c39_.gKind, .str c39_.gName, .int .i64 c39_.gNum, .sl (List.map GTerm.c c39_.gKids)]] (.bool r) []) := by
  intro k
  induction k with
  | zero =>
    · intro c38_ c39_ r h
      exact (onone (by rw [pimpl_SameTerm] at h; exact h)).elim
  | succ k ih =>
    have ih_pimpl_SameTerm := @ih
    · intro c38_ c39_ r h
      rw [pimpl_SameTerm] at h
      refine FnC.of Try.func46 (rfl : Try.f46.body = some _) (Nat.le_of_ble_eq_true (by kernel_rfl)) ?_
      intro w0 X0
      refine Wc.seq ?_
      refine Wc.region [] [2, 3] [2, 3] [] ⟨[(2, (.ptr 2 0, [])), (3, (.ptr 3 0, []))], [(2, ([.int .i64 c38_.gKind, .str c38_.gName, .int .i64 c38_.gNum, .sl (List.map GTerm.c c38_.gKids)], [])), (3, ([.int .i64 c39_.gKind, .str c39_.gName, .int .i64 c39_.gNum, .sl (List.map GTerm.c c39_.gKids)], []))], []⟩ _ (by kernel_rfl) .nil ?_
      refine Wc.seq ?_
      rcases oif h with ⟨h34, h⟩ | ⟨h34, h⟩
      · rcases oif h with ⟨h35, h⟩ | ⟨h35, h⟩
        · rcases oif h with ⟨h36, h⟩ | ⟨h36, h⟩
          · obtain ⟨d46_, h44, h⟩ := obind h
            refine Wc.region [((none, []), none), ((none, []), none), ((none, []), none), ((none, []), none), ((none, []), none), ((none, []), some (.bool true)), ((none, []), none), ((none, []), none), ((none, []), none), ((none, []), none), ((none, []), none), ((none, []), none), ((none, []), some (.bool true)), ((none, []), none), ((none, []), none), ((none, []), none), ((none, []), none), ((none, []), none), ((none, []), none), ((none, []), some (.bool true)), ((none, []), none), ((none, []), none), ((none, []), none), ((none, []), none), ((some (.bool d46_), []), none)] [4] [] [] ⟨[(4, (.v (.bool d46_), []))], [], []⟩ _ (by kernel_rfl) (.cons (congrArg AV.bool h34) (.cons (congrArg AV.bool h35) (.cons (congrArg AV.bool h36) (.cons (cslices_EqualFunc___impl_Term___impl_Term_impl_Term_impl_Term__on2_pimpl_SameTerm (fun h => ih_pimpl_SameTerm h) h44) .nil)))) ?_
            refine Wc.ret ?_
            obtain rfl := Option.some.inj h
            exact ⟨.inl rfl, by kernel_rfl⟩
          · refine Wc.region [((none, []), none), ((none, []), none), ((none, []), none), ((none, []), none), ((none, []), none), ((none, []), some (.bool true)), ((none, []), none), ((none, []), none), ((none, []), none), ((none, []), none), ((none, []), none), ((none, []), none), ((none, []), some (.bool true)), ((none, []), none), ((none, []), none), ((none, []), none), ((none, []), none), ((none, []), none), ((none, []), none), ((none, []), some (.bool false))] [4] [] [] ⟨[(4, (.v (.bool false), []))], [], []⟩ _ (by kernel_rfl) (.cons (congrArg AV.bool h34) (.cons (congrArg AV.bool h35) (.cons (congrArg AV.bool h36) .nil))) ?_
            refine Wc.ret ?_
            obtain rfl := Option.some.inj h
            exact ⟨.inl rfl, by kernel_rfl⟩
        · refine Wc.region [((none, []), none), ((none, []), none), ((none, []), none), ((none, []), none), ((none, []), none), ((none, []), some (.bool true)), ((none, []), none), ((none, []), none), ((none, []), none), ((none, []), none), ((none, []), none), ((none, []), none), ((none, []), some (.bool false))] [4] [] [] ⟨[(4, (.v (.bool false), []))], [], []⟩ _ (by kernel_rfl) (.cons (congrArg AV.bool h34) (.cons (congrArg AV.bool h35) .nil)) ?_
          refine Wc.ret ?_
          obtain rfl := Option.some.inj h
          exact ⟨.inl rfl, by kernel_rfl⟩
      · refine Wc.region [((none, []), none), ((none, []), none), ((none, []), none), ((none, []), none), ((none, []), none), ((none, []), some (.bool false))] [4] [] [] ⟨[(4, (.v (.bool false), []))], [], []⟩ _ (by kernel_rfl) (.cons (congrArg AV.bool h34) .nil) ?_
        refine Wc.ret ?_
        obtain rfl := Option.some.inj h
        exact ⟨.inl rfl, by kernel_rfl⟩
theorem cimpl_SameTerm {k : Nat} {c38_ : GTerm} {c39_ : GTerm} {r : Bool} (h : pimpl_SameTerm k c38_ c39_ = some r) : FnC Try.prog 46 [.agg [.int .i64 c38_.gKind, .str c38_.gName, .int .i64 c38_.gNum, .sl (List.map GTerm.c c38_.gKids)], .agg [.int .i64 c39_.gKind, .str c39_.gName, .int .i64 c39_.gNum, .sl (List.map GTerm.c c39_.gKids)]] (.bool r) [] := (all_pimpl_SameTerm k) h

/-- impl.TermIn$1 -/
def pimpl_TermIn_1 (k : Nat) (c36_ : GTerm) (c37_ : GTerm) : Option Bool :=
  (pimpl_SameTerm k c36_ c37_).bind fun d41_ =>
  some d41_
theorem cimpl_TermIn_1 {k : Nat} {c36_ : GTerm} {c37_ : GTerm} {r : Bool} (h : pimpl_TermIn_1 k c36_ c37_ = some r) : FnC Try.prog 45 [.agg [.int .i64 c36_.gKind, .str c36_.gName, .int .i64 c36_.gNum, .sl (List.map GTerm.c c36_.gKids)], .vptr [.int .i64 c37_.gKind, .str c37_.gName, .int .i64 c37_.gNum, .sl (List.map GTerm.c c37_.gKids)]] (.bool r) [] := by
  refine FnC.of Try.func45 (rfl : Try.f45.body = some _) (Nat.le_of_ble_eq_true (by kernel_rfl)) ?_
  intro w0 X0
  unfold pimpl_TermIn_1 at h
  refine Wc.seq ?_
  refine Wc.region [] [1, 2] [2] [] ⟨[(1, (.v (.vptr [.int .i64 c37_.gKind, .str c37_.gName, .int .i64 c37_.gNum, .sl (List.map GTerm.c c37_.gKids)]), [])), (2, (.ptr 2 0, []))], [(2, ([.int .i64 c36_.gKind, .str c36_.gName, .int .i64 c36_.gNum, .sl (List.map GTerm.c c36_.gKids)], []))], []⟩ _ (by kernel_rfl) .nil ?_
  refine Wc.seq ?_
  obtain ⟨d41_, h38, h⟩ := obind h
  refine Wc.region [((none, []), none), ((none, []), none), ((some (.bool d41_), []), none)] [3] [] [] ⟨[(3, (.v (.bool d41_), []))], [], []⟩ _ (by kernel_rfl) (.cons (len_ok 4 [.int .i64 c37_.gKind, .str c37_.gName, .int .i64 c37_.gNum, .sl (List.map GTerm.c c37_.gKids)]) (.cons (cimpl_SameTerm h38) .nil)) ?_
  refine Wc.ret ?_
  obtain rfl := Option.some.inj h
  exact ⟨.inl rfl, by kernel_rfl⟩

def pslices_IndexFunc___impl_Term_impl_Term__on1_pimpl_TermIn_1_L1 (k : Nat) (a32_ : List GTerm) (c33_ : GTerm) : Nat → Int → Option (Out Int Unit)
  | 0, _ => none
  | m + 1, b34_ =>
    if (decide (b34_ < (a32_.length : Int))) = true then
      (at' a32_ b34_).bind fun c35_ =>
      (pimpl_TermIn_1 k c35_ c33_).bind fun d36_ =>
      if d36_ = true then
        some (.ret b34_)
      else
        pslices_IndexFunc___impl_Term_impl_Term__on1_pimpl_TermIn_1_L1 k a32_ c33_ m (wr.i64 (b34_ + 1))
    else
      some (.done ())
/-- slices.IndexFunc[[]impl.Term,impl.Term] -/
def pslices_IndexFunc___impl_Term_impl_Term__on1_pimpl_TermIn_1 (k : Nat) (a32_ : List GTerm) (c33_ : GTerm) : Option Int :=
  (pslices_IndexFunc___impl_Term_impl_Term__on1_pimpl_TermIn_1_L1 k a32_ c33_ k 0).bind fun out1 => match out1 with
  | .ret r => some r
  | .done () =>
    some (-1)
theorem cslices_IndexFunc___impl_Term_impl_Term__on1_pimpl_TermIn_1 {k : Nat} {a32_ : List GTerm} {c33_ : GTerm} {r : Int} (h : pslices_IndexFunc___impl_Term_impl_Term__on1_pimpl_TermIn_1 k a32_ c33_ = some r) : FnC Try.prog 44 [.sl (List.map GTerm.c a32_), .func 45 [.vptr [.int .i64 c33_.gKind, .str c33_.gName, .int .i64 c33_.gNum, .sl (List.map GTerm.c c33_.gKids)]]] (.int .i64 r) [] := by
  refine FnC.of Try.func44 (rfl : Try.f44.body = some _) (Nat.le_of_ble_eq_true (by kernel_rfl)) ?_
  intro w0 X0
  unfold pslices_IndexFunc___impl_Term_impl_Term__on1_pimpl_TermIn_1 at h
  refine Wc.seq ?_
  refine Wc.region [] [0, 1] [] [] ⟨[(0, (.v (.sl (List.map GTerm.c a32_)), [])), (1, (.v (.func 45 [.vptr [.int .i64 c33_.gKind, .str c33_.gName, .int .i64 c33_.gNum, .sl (List.map GTerm.c c33_.gKids)]]), []))], [], []⟩ _ (by kernel_rfl) .nil ?_
  refine Wc.seq ?_
  refine Wc.seq ?_
  refine Wc.region [((none, []), none), ((some (.int .i64 (a32_.length : Int)), []), none)] [0, 1, 7, 8] [] [] ⟨[(0, (.v (.sl (List.map GTerm.c a32_)), [])), (1, (.v (.func 45 [.vptr [.int .i64 c33_.gKind, .str c33_.gName, .int .i64 c33_.gNum, .sl (List.map GTerm.c c33_.gKids)]]), [])), (7, (.v (.int .i64 (a32_.length : Int)), [])), (8, (.v (.int .i64 0), []))], [], []⟩ _ (by kernel_rfl) (.cons (len_obl GTerm.c a32_) .nil) ?_
  obtain ⟨out1, h32, h⟩ := obind h
  refine Wc.lastJ (fun st => out1 = .done () ∧ st = ⟨[], [], []⟩) ?_ ?_
  · refine Wc.block ?_
    refine Wc.loop (fun m st => ∃ (b34_ : Int), st = ⟨[(0, (.v (.sl (List.map GTerm.c a32_)), [])), (1, (.v (.func 45 [.vptr [.int .i64 c33_.gKind, .str c33_.gName, .int .i64 c33_.gNum, .sl (List.map GTerm.c c33_.gKids)]]), [])), (7, (.v (.int .i64 (a32_.length : Int)), [])), (8, (.v (.int .i64 b34_), []))], [], []⟩ ∧ pslices_IndexFunc___impl_Term_impl_Term__on1_pimpl_TermIn_1_L1 k a32_ c33_ m b34_ = some out1) ?_ k ⟨_, rfl, h32⟩
    rintro m st ⟨b34_, rfl, h32⟩
    cases m with
    | zero => exact (onone h32).elim
    | succ m =>
      refine Wc.seq ?_
      refine Wc.region [] [0, 1, 7, 8, 9] [] [] ⟨[(0, (.v (.sl (List.map GTerm.c a32_)), [])), (1, (.v (.func 45 [.vptr [.int .i64 c33_.gKind, .str c33_.gName, .int .i64 c33_.gNum, .sl (List.map GTerm.c c33_.gKids)]]), [])), (7, (.v (.int .i64 (a32_.length : Int)), [])), (8, (.v (.int .i64 b34_), [])), (9, (.v (.bool (decide (b34_ < (a32_.length : Int)))), []))], [], []⟩ _ (by kernel_rfl) .nil ?_
      refine Wc.seq ?_
      rcases oif h32 with ⟨h33, h32⟩ | ⟨h33, h32⟩
      · refine Wc.condT h33 (by kernel_rfl) ?_
        refine Wc.keep [0, 1, 7, 8] [] [] ⟨[(0, (.v (.sl (List.map GTerm.c a32_)), [])), (1, (.v (.func 45 [.vptr [.int .i64 c33_.gKind, .str c33_.gName, .int .i64 c33_.gNum, .sl (List.map GTerm.c c33_.gKids)]]), [])), (7, (.v (.int .i64 (a32_.length : Int)), [])), (8, (.v (.int .i64 b34_), []))], [], []⟩ (by kernel_rfl) ?_
        refine Wc.skip ?_
        refine Wc.seq ?_
        refine Wc.block ?_
        refine Wc.seq ?_
        refine Wc.region [] [0, 1, 5, 7, 8] [] [] ⟨[(0, (.v (.sl (List.map GTerm.c a32_)), [])), (1, (.v (.func 45 [.vptr [.int .i64 c33_.gKind, .str c33_.gName, .int .i64 c33_.gNum, .sl (List.map GTerm.c c33_.gKids)]]), [])), (5, (.v (.int .i64 b34_), [])), (7, (.v (.int .i64 (a32_.length : Int)), [])), (8, (.v (.int .i64 b34_), []))], [], []⟩ _ (by kernel_rfl) .nil ?_
        refine Wc.seq ?_
        obtain ⟨c35_, h34, h32⟩ := obind h32
        obtain ⟨d36_, h35, h32⟩ := obind h32
        refine Wc.region [((none, []), none), ((none, []), none), ((none, []), none), ((some (.vptr [.int .i64 c35_.gKind, .str c35_.gName, .int .i64 c35_.gNum, .sl (List.map GTerm.c c35_.gKids)]), []), none), ((none, []), none), ((some (.bool d36_), []), none)] [0, 1, 5, 7, 8, 16] [] [] ⟨[(0, (.v (.sl (List.map GTerm.c a32_)), [])), (1, (.v (.func 45 [.vptr [.int .i64 c33_.gKind, .str c33_.gName, .int .i64 c33_.gNum, .sl (List.map GTerm.c c33_.gKids)]]), [])), (5, (.v (.int .i64 b34_), [])), (7, (.v (.int .i64 (a32_.length : Int)), [])), (8, (.v (.int .i64 b34_), [])), (16, (.v (.bool d36_), []))], [], []⟩ _ (by kernel_rfl) (.cons (at_obl (c := GTerm.c) (GTerm.c_eq c35_) GTerm.c_len h34) (.cons (len_ok 4 [.int .i64 c35_.gKind, .str c35_.gName, .int .i64 c35_.gNum, .sl (List.map GTerm.c c35_.gKids)]) (.cons (cimpl_TermIn_1 h35) .nil))) ?_
        rcases oif h32 with ⟨h36, h32⟩ | ⟨h36, h32⟩
        · refine Wc.condT h36 (by kernel_rfl) ?_
          refine Wc.seq ?_
          refine Wc.region [] [4] [] [] ⟨[(4, (.v (.int .i64 b34_), []))], [], []⟩ _ (by kernel_rfl) .nil ?_
          refine Wc.ret ?_
          obtain rfl := Option.some.inj h32
          obtain rfl := Option.some.inj h
          exact ⟨.inl rfl, by kernel_rfl⟩
        · refine Wc.condF h36 (by kernel_rfl) ?_
          refine Wc.keep [0, 1, 7, 8] [] [] ⟨[(0, (.v (.sl (List.map GTerm.c a32_)), [])), (1, (.v (.func 45 [.vptr [.int .i64 c33_.gKind, .str c33_.gName, .int .i64 c33_.gNum, .sl (List.map GTerm.c c33_.gKids)]]), [])), (7, (.v (.int .i64 (a32_.length : Int)), [])), (8, (.v (.int .i64 b34_), []))], [], []⟩ (by kernel_rfl) ?_
          refine Wc.skip ?_
          refine Wc.region [] [0, 1, 7, 8] [] [] ⟨[(0, (.v (.sl (List.map GTerm.c a32_)), [])), (1, (.v (.func 45 [.vptr [.int .i64 c33_.gKind, .str c33_.gName, .int .i64 c33_.gNum, .sl (List.map GTerm.c c33_.gKids)]]), [])), (7, (.v (.int .i64 (a32_.length : Int)), [])), (8, (.v (.int .i64 (wr.i64 (b34_ + 1))), []))], [], []⟩ _ (by kernel_rfl) .nil ?_
          exact ⟨_, Nat.lt_succ_self _, _, rfl, h32⟩
      · refine Wc.condF h33 (by kernel_rfl) ?_
        refine Wc.keep [] [] [] ⟨[], [], []⟩ (by kernel_rfl) ?_
        refine Wc.exit ?_
        obtain rfl := Option.some.inj h32
        exact ⟨rfl, rfl⟩
  · rintro st ⟨rfl, rfl⟩
    refine Wc.seq ?_
    refine Wc.region [] [4] [] [] ⟨[(4, (.v (.int .i64 (-1)), []))], [], []⟩ _ (by kernel_rfl) .nil ?_
    refine Wc.ret ?_
    obtain rfl := Option.some.inj h
    exact ⟨.inl rfl, by kernel_rfl⟩

/-- impl.TermIn -/
def pimpl_TermIn (k : Nat) (a30_ : List GTerm) (c31_ : GTerm) : Option Int :=
  (pslices_IndexFunc___impl_Term_impl_Term__on1_pimpl_TermIn_1 k a30_ c31_).bind fun b37_ =>
  some b37_
theorem cimpl_TermIn {k : Nat} {a30_ : List GTerm} {c31_ : GTerm} {r : Int} (h : pimpl_TermIn k a30_ c31_ = some r) : FnC Try.prog 25 [.sl (List.map GTerm.c a30_), .agg [.int .i64 c31_.gKind, .str c31_.gName, .int .i64 c31_.gNum, .sl (List.map GTerm.c c31_.gKids)]] (.int .i64 r) [] := by
  refine FnC.of Try.func25 (rfl : Try.f25.body = some _) (Nat.le_of_ble_eq_true (by kernel_rfl)) ?_
  intro w0 X0
  unfold pimpl_TermIn at h
  refine Wc.seq ?_
  refine Wc.region [] [0, 3] [3] [] ⟨[(0, (.v (.sl (List.map GTerm.c a30_)), [])), (3, (.ptr 3 0, []))], [(3, ([.int .i64 c31_.gKind, .str c31_.gName, .int .i64 c31_.gNum, .sl (List.map GTerm.c c31_.gKids)], []))], []⟩ _ (by kernel_rfl) .nil ?_
  refine Wc.seq ?_
  refine Wc.freeze 3 ⟨[(0, (.v (.sl (List.map GTerm.c a30_)), [])), (3, (.v (.vptr [.int .i64 c31_.gKind, .str c31_.gName, .int .i64 c31_.gNum, .sl (List.map GTerm.c c31_.gKids)]), []))], [], []⟩ (by kernel_rfl) ?_
  obtain ⟨b37_, h37, h⟩ := obind h
  refine Wc.region [((none, []), none), ((none, []), none), ((some (.int .i64 b37_), []), none)] [4] [] [] ⟨[(4, (.v (.int .i64 b37_), []))], [], []⟩ _ (by kernel_rfl) (.cons (cslices_IndexFunc___impl_Term_impl_Term__on1_pimpl_TermIn_1 h37) .nil) ?_
  refine Wc.ret ?_
  obtain rfl := Option.some.inj h
  exact ⟨.inl rfl, by kernel_rfl⟩

def plaws_eqTermS_L1 (k : Nat) (rlaws_eqTermS : (List GTerm) → (List GTerm) → Option Bool) (rlaws_eqTerm : GTerm → GTerm → Option Bool) (a38_ : List GTerm) (a39_ : List GTerm) : Nat → Int → Option (Out Bool Unit)
  | 0, _ => none
  | m + 1, b40_ =>
    if (decide (b40_ < (a38_.length : Int))) = true then
      (at' a38_ b40_).bind fun c41_ =>
      (at' a39_ b40_).bind fun c42_ =>
      (rlaws_eqTerm c41_ c42_).bind fun d43_ =>
      if (!d43_) = true then
        some (.ret false)
      else
        plaws_eqTermS_L1 k rlaws_eqTermS rlaws_eqTerm a38_ a39_ m (wr.i64 (b40_ + 1))
    else
      some (.done ())
mutual
/-- laws.eqTermS -/
def plaws_eqTermS : Nat → (List GTerm) → (List GTerm) → Option Bool
  | 0, _, _ => none
  | k + 1, a38_, a39_ =>
    if ((a38_.length : Int) != (a39_.length : Int)) = true then
      some false
    else
      (plaws_eqTermS_L1 k (plaws_eqTermS k) (plaws_eqTerm k) a38_ a39_ k 0).bind fun out1 => match out1 with
      | .ret r => some r
      | .done () =>
        some true
/-- laws.eqTerm -/
def plaws_eqTerm : Nat → GTerm → GTerm → Option Bool
  | 0, _, _ => none
  | k + 1, c44_, c45_ =>
    if (c44_.gKind != c45_.gKind) = true then
      some false
    else
      if (!(sEq c44_.gName c45_.gName)) = true then
        some false
      else
        if (c44_.gNum != c45_.gNum) = true then
          some false
        else
          (plaws_eqTermS k c44_.gKids c45_.gKids).bind fun d46_ =>
          if (!d46_) = true then
            some false
          else
            some true
end
theorem all_plaws_eqTermS : ∀ k : Nat, (∀ {a38_ : List GTerm} {a39_ : List GTerm} {r : Bool}, plaws_eqTermS k a38_ a39_ = some r → FnC Try.prog 26 [.sl (List.map GTerm.c a38_), .sl (List.map GTerm.c a39_)] (.bool r) []) ∧
    (∀ {c44_ : GTerm} {c45_ : GTerm} {r : Bool}, plaws_eqTerm k c44_ c45_ = some r → FnC Try.prog 27 [.agg [.int .i64 c44_.gKind, .str c44_.gName, .int .i64 c44_.gNum, .sl (List.map GTerm.c c44_.gKids)], .agg [.int .i64 c45_.gKind, .str c45_.gName, .int .i64 c45_.gNum, .sl (List.map GTerm.c c45_.gKids)]] (.bool r) []) := by
  intro k
  induction k with
  | zero =>
    refine ⟨?_, ?_⟩
    · intro a38_ a39_ r h
      exact (onone (by rw [plaws_eqTermS] at h; exact h)).elim
    · intro c44_ c45_ r h
      exact (onone (by rw [plaws_eqTerm] at h; exact h)).elim
  | succ k ih =>
    obtain ⟨ih_plaws_eqTermS, ih_plaws_eqTerm⟩ := ih
    refine ⟨?_, ?_⟩
    · intro a38_ a39_ r h
      rw [plaws_eqTermS] at h
      refine FnC.of Try.func26 (rfl : Try.f26.body = some _) (Nat.le_of_ble_eq_true (by kernel_rfl)) ?_
      intro w0 X0
      refine Wc.seq ?_
      refine Wc.region [] [0, 1] [] [] ⟨[(0, (.v (.sl (List.map GTerm.c a38_)), [])), (1, (.v (.sl (List.map GTerm.c a39_)), []))], [], []⟩ _ (by kernel_rfl) .nil ?_
      refine Wc.seq ?_
      refine Wc.seq ?_
      refine Wc.region [((none, []), none), ((some (.int .i64 (a38_.length : Int)), []), none), ((none, []), none), ((some (.int .i64 (a39_.length : Int)), []), none)] [0, 1, 10] [] [] ⟨[(0, (.v (.sl (List.map GTerm.c a38_)), [])), (1, (.v (.sl (List.map GTerm.c a39_)), [])), (10, (.v (.bool ((a38_.length : Int) != (a39_.length : Int))), []))], [], []⟩ _ (by kernel_rfl) (.cons (len_obl GTerm.c a38_) (.cons (len_obl GTerm.c a39_) .nil)) ?_
      rcases oif h with ⟨h38, h⟩ | ⟨h38, h⟩
      · refine Wc.condT h38 (by kernel_rfl) ?_
        refine Wc.seq ?_
        refine Wc.region [] [4] [] [] ⟨[(4, (.v (.bool false), []))], [], []⟩ _ (by kernel_rfl) .nil ?_
        refine Wc.ret ?_
        obtain rfl := Option.some.inj h
        exact ⟨.inl rfl, by kernel_rfl⟩
      · refine Wc.condF h38 (by kernel_rfl) ?_
        refine Wc.keep [0, 1] [] [] ⟨[(0, (.v (.sl (List.map GTerm.c a38_)), [])), (1, (.v (.sl (List.map GTerm.c a39_)), []))], [], []⟩ (by kernel_rfl) ?_
        refine Wc.skip ?_
        refine Wc.seq ?_
        refine Wc.seq ?_
        refine Wc.region [] [0, 1, 5] [] [] ⟨[(0, (.v (.sl (List.map GTerm.c a38_)), [])), (1, (.v (.sl (List.map GTerm.c a39_)), [])), (5, (.v (.int .i64 0), []))], [], []⟩ _ (by kernel_rfl) .nil ?_
        obtain ⟨out1, h39, h⟩ := obind h
        refine Wc.lastJ (fun st => out1 = .done () ∧ st = ⟨[], [], []⟩) ?_ ?_
        · refine Wc.block ?_
          refine Wc.loop (fun m st => ∃ (b40_ : Int), st = ⟨[(0, (.v (.sl (List.map GTerm.c a38_)), [])), (1, (.v (.sl (List.map GTerm.c a39_)), [])), (5, (.v (.int .i64 b40_), []))], [], []⟩ ∧ plaws_eqTermS_L1 k (plaws_eqTermS k) (plaws_eqTerm k) a38_ a39_ m b40_ = some out1) ?_ k ⟨_, rfl, h39⟩
          rintro m st ⟨b40_, rfl, h39⟩
          cases m with
          | zero => exact (onone h39).elim
          | succ m =>
            refine Wc.seq ?_
            refine Wc.seq ?_
            refine Wc.region [((none, []), none), ((none, []), none), ((some (.int .i64 (a38_.length : Int)), []), none)] [0, 1, 5, 14] [] [] ⟨[(0, (.v (.sl (List.map GTerm.c a38_)), [])), (1, (.v (.sl (List.map GTerm.c a39_)), [])), (5, (.v (.int .i64 b40_), [])), (14, (.v (.bool (decide (b40_ < (a38_.length : Int)))), []))], [], []⟩ _ (by kernel_rfl) (.cons (len_obl GTerm.c a38_) .nil) ?_
            rcases oif h39 with ⟨h40, h39⟩ | ⟨h40, h39⟩
            · refine Wc.condT h40 (by kernel_rfl) ?_
              refine Wc.keep [0, 1, 5] [] [] ⟨[(0, (.v (.sl (List.map GTerm.c a38_)), [])), (1, (.v (.sl (List.map GTerm.c a39_)), [])), (5, (.v (.int .i64 b40_), []))], [], []⟩ (by kernel_rfl) ?_
              refine Wc.skip ?_
              refine Wc.seq ?_
              refine Wc.block ?_
              refine Wc.seq ?_
              obtain ⟨c41_, h41, h39⟩ := obind h39
              obtain ⟨c42_, h42, h39⟩ := obind h39
              obtain ⟨d43_, h43, h39⟩ := obind h39
              refine Wc.draw hmix [((none, []), none), ((none, []), none), ((some (.vptr [.int .i64 c41_.gKind, .str c41_.gName, .int .i64 c41_.gNum, .sl (List.map GTerm.c c41_.gKids)]), []), none), ((none, []), none), ((none, []), none), ((none, []), none), ((some (.vptr [.int .i64 c42_.gKind, .str c42_.gName, .int .i64 c42_.gNum, .sl (List.map GTerm.c c42_.gKids)]), []), none), ((none, []), none), ((some (.bool d43_), []), none)] [0, 1, 5, 26] [] [] ⟨[(0, (.v (.sl (List.map GTerm.c a38_)), [])), (1, (.v (.sl (List.map GTerm.c a39_)), [])), (5, (.v (.int .i64 b40_), [])), (26, (.v (.bool (!d43_)), []))], [], []⟩ _ (by kernel_rfl) (.cons (at_obl (c := GTerm.c) (GTerm.c_eq c41_) GTerm.c_len h41) (.cons (len_ok 4 [.int .i64 c41_.gKind, .str c41_.gName, .int .i64 c41_.gNum, .sl (List.map GTerm.c c41_.gKids)]) (.cons (at_obl (c := GTerm.c) (GTerm.c_eq c42_) GTerm.c_len h42) (.cons (len_ok 4 [.int .i64 c42_.gKind, .str c42_.gName, .int .i64 c42_.gNum, .sl (List.map GTerm.c c42_.gKids)]) (.cons (ih_plaws_eqTerm h43) .nil))))) ?_
              rcases oif h39 with ⟨h44, h39⟩ | ⟨h44, h39⟩
              · refine Wc.condT h44 (by kernel_rfl) ?_
                refine Wc.seq ?_
                refine Wc.region [] [4] [] [] ⟨[(4, (.v (.bool false), []))], [], []⟩ _ (by kernel_rfl) .nil ?_
                refine Wc.ret ?_
                obtain rfl := Option.some.inj h39
                obtain rfl := Option.some.inj h
                exact ⟨.inl rfl, by kernel_rfl⟩
              · refine Wc.condF h44 (by kernel_rfl) ?_
                refine Wc.keep [0, 1, 5] [] [] ⟨[(0, (.v (.sl (List.map GTerm.c a38_)), [])), (1, (.v (.sl (List.map GTerm.c a39_)), [])), (5, (.v (.int .i64 b40_), []))], [], []⟩ (by kernel_rfl) ?_
                refine Wc.skip ?_
                refine Wc.region [] [0, 1, 5] [] [] ⟨[(0, (.v (.sl (List.map GTerm.c a38_)), [])), (1, (.v (.sl (List.map GTerm.c a39_)), [])), (5, (.v (.int .i64 (wr.i64 (b40_ + 1))), []))], [], []⟩ _ (by kernel_rfl) .nil ?_
                exact ⟨_, Nat.lt_succ_self _, _, rfl, h39⟩
            · refine Wc.condF h40 (by kernel_rfl) ?_
              refine Wc.keep [] [] [] ⟨[], [], []⟩ (by kernel_rfl) ?_
              refine Wc.exit ?_
              obtain rfl := Option.some.inj h39
              exact ⟨rfl, rfl⟩
        · rintro st ⟨rfl, rfl⟩
          refine Wc.seq ?_
          refine Wc.region [] [4] [] [] ⟨[(4, (.v (.bool true), []))], [], []⟩ _ (by kernel_rfl) .nil ?_
          refine Wc.ret ?_
          obtain rfl := Option.some.inj h
          exact ⟨.inl rfl, by kernel_rfl⟩
    · intro c44_ c45_ r h
      rw [plaws_eqTerm] at h
      refine FnC.of Try.func27 (rfl : Try.f27.body = some _) (Nat.le_of_ble_eq_true (by kernel_rfl)) ?_
      intro w0 X0
      refine Wc.seq ?_
      refine Wc.region [] [2, 3] [2, 3] [] ⟨[(2, (.ptr 2 0, [])), (3, (.ptr 3 0, []))], [(2, ([.int .i64 c44_.gKind, .str c44_.gName, .int .i64 c44_.gNum, .sl (List.map GTerm.c c44_.gKids)], [])), (3, ([.int .i64 c45_.gKind, .str c45_.gName, .int .i64 c45_.gNum, .sl (List.map GTerm.c c45_.gKids)], []))], []⟩ _ (by kernel_rfl) .nil ?_
      refine Wc.seq ?_
      refine Wc.seq ?_
      refine Wc.region [] [2, 3, 9] [2, 3] [] ⟨[(2, (.ptr 2 0, [])), (3, (.ptr 3 0, [])), (9, (.v (.bool (c44_.gKind != c45_.gKind)), []))], [(2, ([.int .i64 c44_.gKind, .str c44_.gName, .int .i64 c44_.gNum, .sl (List.map GTerm.c c44_.gKids)], [])), (3, ([.int .i64 c45_.gKind, .str c45_.gName, .int .i64 c45_.gNum, .sl (List.map GTerm.c c45_.gKids)], []))], []⟩ _ (by kernel_rfl) .nil ?_
      rcases oif h with ⟨h45, h⟩ | ⟨h45, h⟩
      · refine Wc.condT h45 (by kernel_rfl) ?_
        refine Wc.seq ?_
        refine Wc.region [] [4] [] [] ⟨[(4, (.v (.bool false), []))], [], []⟩ _ (by kernel_rfl) .nil ?_
        refine Wc.ret ?_
        obtain rfl := Option.some.inj h
        exact ⟨.inl rfl, by kernel_rfl⟩
      · refine Wc.condF h45 (by kernel_rfl) ?_
        refine Wc.keep [2, 3] [2, 3] [] ⟨[(2, (.ptr 2 0, [])), (3, (.ptr 3 0, []))], [(2, ([.int .i64 c44_.gKind, .str c44_.gName, .int .i64 c44_.gNum, .sl (List.map GTerm.c c44_.gKids)], [])), (3, ([.int .i64 c45_.gKind, .str c45_.gName, .int .i64 c45_.gNum, .sl (List.map GTerm.c c45_.gKids)], []))], []⟩ (by kernel_rfl) ?_
        refine Wc.skip ?_
        refine Wc.seq ?_
        refine Wc.seq ?_
        refine Wc.region [] [2, 3, 14] [2, 3] [] ⟨[(2, (.ptr 2 0, [])), (3, (.ptr 3 0, [])), (14, (.v (.bool (!(sEq c44_.gName c45_.gName))), []))], [(2, ([.int .i64 c44_.gKind, .str c44_.gName, .int .i64 c44_.gNum, .sl (List.map GTerm.c c44_.gKids)], [])), (3, ([.int .i64 c45_.gKind, .str c45_.gName, .int .i64 c45_.gNum, .sl (List.map GTerm.c c45_.gKids)], []))], []⟩ _ (by kernel_rfl) .nil ?_
        rcases oif h with ⟨h46, h⟩ | ⟨h46, h⟩
        · refine Wc.condT h46 (by kernel_rfl) ?_
          refine Wc.seq ?_
          refine Wc.region [] [4] [] [] ⟨[(4, (.v (.bool false), []))], [], []⟩ _ (by kernel_rfl) .nil ?_
          refine Wc.ret ?_
          obtain rfl := Option.some.inj h
          exact ⟨.inl rfl, by kernel_rfl⟩
        · refine Wc.condF h46 (by kernel_rfl) ?_
          refine Wc.keep [2, 3] [2, 3] [] ⟨[(2, (.ptr 2 0, [])), (3, (.ptr 3 0, []))], [(2, ([.int .i64 c44_.gKind, .str c44_.gName, .int .i64 c44_.gNum, .sl (List.map GTerm.c c44_.gKids)], [])), (3, ([.int .i64 c45_.gKind, .str c45_.gName, .int .i64 c45_.gNum, .sl (List.map GTerm.c c45_.gKids)], []))], []⟩ (by kernel_rfl) ?_
          refine Wc.skip ?_
          refine Wc.seq ?_
          refine Wc.seq ?_
          refine Wc.region [] [2, 3, 19] [2, 3] [] ⟨[(2, (.ptr 2 0, [])), (3, (.ptr 3 0, [])), (19, (.v (.bool (c44_.gNum != c45_.gNum)), []))], [(2, ([.int .i64 c44_.gKind, .str c44_.gName, .int .i64 c44_.gNum, .sl (List.map GTerm.c c44_.gKids)], [])), (3, ([.int .i64 c45_.gKind, .str c45_.gName, .int .i64 c45_.gNum, .sl (List.map GTerm.c c45_.gKids)], []))], []⟩ _ (by kernel_rfl) .nil ?_
          rcases oif h with ⟨h47, h⟩ | ⟨h47, h⟩
          · refine Wc.condT h47 (by kernel_rfl) ?_
            refine Wc.seq ?_
            refine Wc.region [] [4] [] [] ⟨[(4, (.v (.bool false), []))], [], []⟩ _ (by kernel_rfl) .nil ?_
            refine Wc.ret ?_
            obtain rfl := Option.some.inj h
            exact ⟨.inl rfl, by kernel_rfl⟩
          · refine Wc.condF h47 (by kernel_rfl) ?_
            refine Wc.keep [2, 3] [2, 3] [] ⟨[(2, (.ptr 2 0, [])), (3, (.ptr 3 0, []))], [(2, ([.int .i64 c44_.gKind, .str c44_.gName, .int .i64 c44_.gNum, .sl (List.map GTerm.c c44_.gKids)], [])), (3, ([.int .i64 c45_.gKind, .str c45_.gName, .int .i64 c45_.gNum, .sl (List.map GTerm.c c45_.gKids)], []))], []⟩ (by kernel_rfl) ?_
            refine Wc.skip ?_
            refine Wc.seq ?_
            refine Wc.seq ?_
            obtain ⟨d46_, h48, h⟩ := obind h
            refine Wc.region [((none, []), none), ((none, []), none), ((none, []), none), ((none, []), none), ((some (.bool d46_), []), none)] [25] [] [] ⟨[(25, (.v (.bool (!d46_)), []))], [], []⟩ _ (by kernel_rfl) (.cons (ih_plaws_eqTermS h48) .nil) ?_
            rcases oif h with ⟨h49, h⟩ | ⟨h49, h⟩
            · refine Wc.condT h49 (by kernel_rfl) ?_
              refine Wc.seq ?_
              refine Wc.region [] [4] [] [] ⟨[(4, (.v (.bool false), []))], [], []⟩ _ (by kernel_rfl) .nil ?_
              refine Wc.ret ?_
              obtain rfl := Option.some.inj h
              exact ⟨.inl rfl, by kernel_rfl⟩
            · refine Wc.condF h49 (by kernel_rfl) ?_
              refine Wc.keep [] [] [] ⟨[], [], []⟩ (by kernel_rfl) ?_
              refine Wc.skip ?_
              refine Wc.seq ?_
              refine Wc.region [] [4] [] [] ⟨[(4, (.v (.bool true), []))], [], []⟩ _ (by kernel_rfl) .nil ?_
              refine Wc.ret ?_
              obtain rfl := Option.some.inj h
              exact ⟨.inl rfl, by kernel_rfl⟩
theorem claws_eqTermS {k : Nat} {a38_ : List GTerm} {a39_ : List GTerm} {r : Bool} (h : plaws_eqTermS k a38_ a39_ = some r) : FnC Try.prog 26 [.sl (List.map GTerm.c a38_), .sl (List.map GTerm.c a39_)] (.bool r) [] := (all_plaws_eqTermS k).1 h
theorem claws_eqTerm {k : Nat} {c44_ : GTerm} {c45_ : GTerm} {r : Bool} (h : plaws_eqTerm k c44_ c45_ = some r) : FnC Try.prog 27 [.agg [.int .i64 c44_.gKind, .str c44_.gName, .int .i64 c44_.gNum, .sl (List.map GTerm.c c44_.gKids)], .agg [.int .i64 c45_.gKind, .str c45_.gName, .int .i64 c45_.gNum, .sl (List.map GTerm.c c45_.gKids)]] (.bool r) [] := (all_plaws_eqTermS k).2 h

/-- laws.FnExactTermIn -/
def plaws_FnExactTermIn (k : Nat) (a47_ : List GTerm) (c48_ : GTerm) : Option Bool :=
  (plaws_szTermS k a47_ 1048576).bind fun b49_ =>
  if (decide (b49_ < 0)) = true then
    some true
  else
    (plaws_szTerm k c48_ b49_).bind fun b50_ =>
    if (decide (b50_ < 0)) = true then
      some true
    else
      (plaws_toTermS k a47_).bind fun a51_ =>
      (plaws_toTerm k c48_).bind fun c52_ =>
      (pspec_TermIn k a51_ c52_).bind fun b53_ =>
      (plaws_toTermS k a47_).bind fun a54_ =>
      (plaws_toTerm k c48_).bind fun c55_ =>
      (pimpl_TermIn k a54_ c55_).bind fun b56_ =>
      if (b56_ != b53_) = true then
        some false
      else
        (plaws_toTermS k a47_).bind fun a57_ =>
        (plaws_eqTermS k a54_ a57_).bind fun d58_ =>
        if (!d58_) = true then
          some false
        else
          (plaws_toTerm k c48_).bind fun c59_ =>
          (plaws_eqTerm k c55_ c59_).bind fun d60_ =>
          if (!d60_) = true then
            some false
          else
            some true
theorem claws_FnExactTermIn {k : Nat} {a47_ : List GTerm} {c48_ : GTerm} {r : Bool} (h : plaws_FnExactTermIn k a47_ c48_ = some r) : FnC Try.prog 6 [.sl (List.map GTerm.c a47_), .agg [.int .i64 c48_.gKind, .str c48_.gName, .int .i64 c48_.gNum, .sl (List.map GTerm.c c48_.gKids)]] (.bool r) [] := by
  refine FnC.of Try.func6 (rfl : Try.f6.body = some _) (Nat.le_of_ble_eq_true (by kernel_rfl)) ?_
  intro w0 X0
  unfold plaws_FnExactTermIn at h
  refine Wc.seq ?_
  refine Wc.region [] [0, 3] [3] [] ⟨[(0, (.v (.sl (List.map GTerm.c a47_)), [])), (3, (.ptr 3 0, []))], [(3, ([.int .i64 c48_.gKind, .str c48_.gName, .int .i64 c48_.gNum, .sl (List.map GTerm.c c48_.gKids)], []))], []⟩ _ (by kernel_rfl) .nil ?_
  refine Wc.seq ?_
  refine Wc.region [] [0, 3, 5] [3] [] ⟨[(0, (.v (.sl (List.map GTerm.c a47_)), [])), (3, (.ptr 3 0, [])), (5, (.v (.int .i64 1048576), []))], [(3, ([.int .i64 c48_.gKind, .str c48_.gName, .int .i64 c48_.gNum, .sl (List.map GTerm.c c48_.gKids)], []))], []⟩ _ (by kernel_rfl) .nil ?_
  refine Wc.seq ?_
  obtain ⟨b49_, h50, h⟩ := obind h
  refine Wc.region [((none, []), none), ((none, []), none), ((some (.int .i64 b49_), []), none)] [0, 3, 5] [3] [] ⟨[(0, (.v (.sl (List.map GTerm.c a47_)), [])), (3, (.ptr 3 0, [])), (5, (.v (.int .i64 b49_), []))], [(3, ([.int .i64 c48_.gKind, .str c48_.gName, .int .i64 c48_.gNum, .sl (List.map GTerm.c c48_.gKids)], []))], []⟩ _ (by kernel_rfl) (.cons (claws_szTermS h50) .nil) ?_
  refine Wc.seq ?_
  refine Wc.seq ?_
  refine Wc.region [] [0, 3, 5, 14] [3] [] ⟨[(0, (.v (.sl (List.map GTerm.c a47_)), [])), (3, (.ptr 3 0, [])), (5, (.v (.int .i64 b49_), [])), (14, (.v (.bool (decide (b49_ < 0))), []))], [(3, ([.int .i64 c48_.gKind, .str c48_.gName, .int .i64 c48_.gNum, .sl (List.map GTerm.c c48_.gKids)], []))], []⟩ _ (by kernel_rfl) .nil ?_
  rcases oif h with ⟨h51, h⟩ | ⟨h51, h⟩
  · refine Wc.condT h51 (by kernel_rfl) ?_
    refine Wc.seq ?_
    refine Wc.region [] [4] [] [] ⟨[(4, (.v (.bool true), []))], [], []⟩ _ (by kernel_rfl) .nil ?_
    refine Wc.ret ?_
    obtain rfl := Option.some.inj h
    exact ⟨.inl rfl, by kernel_rfl⟩
  · refine Wc.condF h51 (by kernel_rfl) ?_
    refine Wc.keep [0, 3, 5] [3] [] ⟨[(0, (.v (.sl (List.map GTerm.c a47_)), [])), (3, (.ptr 3 0, [])), (5, (.v (.int .i64 b49_), []))], [(3, ([.int .i64 c48_.gKind, .str c48_.gName, .int .i64 c48_.gNum, .sl (List.map GTerm.c c48_.gKids)], []))], []⟩ (by kernel_rfl) ?_
    refine Wc.skip ?_
    refine Wc.seq ?_
    obtain ⟨b50_, h52, h⟩ := obind h
    refine Wc.region [((none, []), none), ((none, []), none), ((some (.int .i64 b50_), []), none)] [0, 3, 5] [3] [] ⟨[(0, (.v (.sl (List.map GTerm.c a47_)), [])), (3, (.ptr 3 0, [])), (5, (.v (.int .i64 b50_), []))], [(3, ([.int .i64 c48_.gKind, .str c48_.gName, .int .i64 c48_.gNum, .sl (List.map GTerm.c c48_.gKids)], []))], []⟩ _ (by kernel_rfl) (.cons (claws_szTerm h52) .nil) ?_
    refine Wc.seq ?_
    refine Wc.seq ?_
    refine Wc.region [] [0, 3, 19] [3] [] ⟨[(0, (.v (.sl (List.map GTerm.c a47_)), [])), (3, (.ptr 3 0, [])), (19, (.v (.bool (decide (b50_ < 0))), []))], [(3, ([.int .i64 c48_.gKind, .str c48_.gName, .int .i64 c48_.gNum, .sl (List.map GTerm.c c48_.gKids)], []))], []⟩ _ (by kernel_rfl) .nil ?_
    rcases oif h with ⟨h53, h⟩ | ⟨h53, h⟩
    · refine Wc.condT h53 (by kernel_rfl) ?_
      refine Wc.seq ?_
      refine Wc.region [] [4] [] [] ⟨[(4, (.v (.bool true), []))], [], []⟩ _ (by kernel_rfl) .nil ?_
      refine Wc.ret ?_
      obtain rfl := Option.some.inj h
      exact ⟨.inl rfl, by kernel_rfl⟩
    · refine Wc.condF h53 (by kernel_rfl) ?_
      refine Wc.keep [0, 3] [3] [] ⟨[(0, (.v (.sl (List.map GTerm.c a47_)), [])), (3, (.ptr 3 0, []))], [(3, ([.int .i64 c48_.gKind, .str c48_.gName, .int .i64 c48_.gNum, .sl (List.map GTerm.c c48_.gKids)], []))], []⟩ (by kernel_rfl) ?_
      refine Wc.skip ?_
      refine Wc.seq ?_
      obtain ⟨a51_, h54, h⟩ := obind h
      obtain ⟨c52_, h55, h⟩ := obind h
      obtain ⟨b53_, h56, h⟩ := obind h
      refine Wc.draw hmix [((none, []), none), ((some (.sl (List.map GTerm.c a51_)), []), none), ((none, []), none), ((some (.agg [.int .i64 c52_.gKind, .str c52_.gName, .int .i64 c52_.gNum, .sl (List.map GTerm.c c52_.gKids)]), []), none), ((some (.int .i64 b53_), []), none)] [0, 3, 6] [3] [] ⟨[(0, (.v (.sl (List.map GTerm.c a47_)), [])), (3, (.ptr 3 0, [])), (6, (.v (.int .i64 b53_), []))], [(3, ([.int .i64 c48_.gKind, .str c48_.gName, .int .i64 c48_.gNum, .sl (List.map GTerm.c c48_.gKids)], []))], []⟩ _ (by kernel_rfl) (.cons (claws_toTermS h54) (.cons (claws_toTerm h55) (.cons (cspec_TermIn h56) .nil))) ?_
      refine Wc.seq ?_
      obtain ⟨a54_, h57, h⟩ := obind h
      refine Wc.region [((none, []), none), ((some (.sl (List.map GTerm.c a54_)), []), none)] [0, 3, 6, 7] [3] [] ⟨[(0, (.v (.sl (List.map GTerm.c a47_)), [])), (3, (.ptr 3 0, [])), (6, (.v (.int .i64 b53_), [])), (7, (.v (.sl (List.map GTerm.c a54_)), []))], [(3, ([.int .i64 c48_.gKind, .str c48_.gName, .int .i64 c48_.gNum, .sl (List.map GTerm.c c48_.gKids)], []))], []⟩ _ (by kernel_rfl) (.cons (claws_toTermS h57) .nil) ?_
      refine Wc.seq ?_
      obtain ⟨c55_, h58, h⟩ := obind h
      refine Wc.region [((none, []), none), ((some (.agg [.int .i64 c55_.gKind, .str c55_.gName, .int .i64 c55_.gNum, .sl (List.map GTerm.c c55_.gKids)]), []), none)] [0, 3, 6, 7, 8] [3, 8] [] ⟨[(0, (.v (.sl (List.map GTerm.c a47_)), [])), (3, (.ptr 3 0, [])), (6, (.v (.int .i64 b53_), [])), (7, (.v (.sl (List.map GTerm.c a54_)), [])), (8, (.ptr 8 0, []))], [(3, ([.int .i64 c48_.gKind, .str c48_.gName, .int .i64 c48_.gNum, .sl (List.map GTerm.c c48_.gKids)], [])), (8, ([.int .i64 c55_.gKind, .str c55_.gName, .int .i64 c55_.gNum, .sl (List.map GTerm.c c55_.gKids)], []))], []⟩ _ (by kernel_rfl) (.cons (claws_toTerm h58) .nil) ?_
      refine Wc.seq ?_
      obtain ⟨b56_, h59, h⟩ := obind h
      refine Wc.region [((none, []), none), ((none, []), none), ((some (.int .i64 b56_), []), none)] [0, 3, 6, 7, 8, 9] [3, 8] [] ⟨[(0, (.v (.sl (List.map GTerm.c a47_)), [])), (3, (.ptr 3 0, [])), (6, (.v (.int .i64 b53_), [])), (7, (.v (.sl (List.map GTerm.c a54_)), [])), (8, (.ptr 8 0, [])), (9, (.v (.int .i64 b56_), []))], [(3, ([.int .i64 c48_.gKind, .str c48_.gName, .int .i64 c48_.gNum, .sl (List.map GTerm.c c48_.gKids)], [])), (8, ([.int .i64 c55_.gKind, .str c55_.gName, .int .i64 c55_.gNum, .sl (List.map GTerm.c c55_.gKids)], []))], []⟩ _ (by kernel_rfl) (.cons (cimpl_TermIn h59) .nil) ?_
      refine Wc.seq ?_
      refine Wc.seq ?_
      refine Wc.region [] [0, 3, 7, 8, 34] [3, 8] [] ⟨[(0, (.v (.sl (List.map GTerm.c a47_)), [])), (3, (.ptr 3 0, [])), (7, (.v (.sl (List.map GTerm.c a54_)), [])), (8, (.ptr 8 0, [])), (34, (.v (.bool (b56_ != b53_)), []))], [(3, ([.int .i64 c48_.gKind, .str c48_.gName, .int .i64 c48_.gNum, .sl (List.map GTerm.c c48_.gKids)], [])), (8, ([.int .i64 c55_.gKind, .str c55_.gName, .int .i64 c55_.gNum, .sl (List.map GTerm.c c55_.gKids)], []))], []⟩ _ (by kernel_rfl) .nil ?_
      rcases oif h with ⟨h60, h⟩ | ⟨h60, h⟩
      · refine Wc.condT h60 (by kernel_rfl) ?_
        refine Wc.seq ?_
        refine Wc.region [] [4] [] [] ⟨[(4, (.v (.bool false), []))], [], []⟩ _ (by kernel_rfl) .nil ?_
        refine Wc.ret ?_
        obtain rfl := Option.some.inj h
        exact ⟨.inl rfl, by kernel_rfl⟩
      · refine Wc.condF h60 (by kernel_rfl) ?_
        refine Wc.keep [0, 3, 7, 8] [3, 8] [] ⟨[(0, (.v (.sl (List.map GTerm.c a47_)), [])), (3, (.ptr 3 0, [])), (7, (.v (.sl (List.map GTerm.c a54_)), [])), (8, (.ptr 8 0, []))], [(3, ([.int .i64 c48_.gKind, .str c48_.gName, .int .i64 c48_.gNum, .sl (List.map GTerm.c c48_.gKids)], [])), (8, ([.int .i64 c55_.gKind, .str c55_.gName, .int .i64 c55_.gNum, .sl (List.map GTerm.c c55_.gKids)], []))], []⟩ (by kernel_rfl) ?_
        refine Wc.skip ?_
        refine Wc.seq ?_
        refine Wc.seq ?_
        obtain ⟨a57_, h61, h⟩ := obind h
        obtain ⟨d58_, h62, h⟩ := obind h
        refine Wc.region [((none, []), none), ((none, []), none), ((some (.sl (List.map GTerm.c a57_)), []), none), ((some (.bool d58_), []), none)] [3, 8, 39] [3, 8] [] ⟨[(3, (.ptr 3 0, [])), (8, (.ptr 8 0, [])), (39, (.v (.bool (!d58_)), []))], [(3, ([.int .i64 c48_.gKind, .str c48_.gName, .int .i64 c48_.gNum, .sl (List.map GTerm.c c48_.gKids)], [])), (8, ([.int .i64 c55_.gKind, .str c55_.gName, .int .i64 c55_.gNum, .sl (List.map GTerm.c c55_.gKids)], []))], []⟩ _ (by kernel_rfl) (.cons (claws_toTermS h61) (.cons (claws_eqTermS h62) .nil)) ?_
        rcases oif h with ⟨h63, h⟩ | ⟨h63, h⟩
        · refine Wc.condT h63 (by kernel_rfl) ?_
          refine Wc.seq ?_
          refine Wc.region [] [4] [] [] ⟨[(4, (.v (.bool false), []))], [], []⟩ _ (by kernel_rfl) .nil ?_
          refine Wc.ret ?_
          obtain rfl := Option.some.inj h
          exact ⟨.inl rfl, by kernel_rfl⟩
        · refine Wc.condF h63 (by kernel_rfl) ?_
          refine Wc.keep [3, 8] [3, 8] [] ⟨[(3, (.ptr 3 0, [])), (8, (.ptr 8 0, []))], [(3, ([.int .i64 c48_.gKind, .str c48_.gName, .int .i64 c48_.gNum, .sl (List.map GTerm.c c48_.gKids)], [])), (8, ([.int .i64 c55_.gKind, .str c55_.gName, .int .i64 c55_.gNum, .sl (List.map GTerm.c c55_.gKids)], []))], []⟩ (by kernel_rfl) ?_
          refine Wc.skip ?_
          refine Wc.seq ?_
          refine Wc.seq ?_
          obtain ⟨c59_, h64, h⟩ := obind h
          obtain ⟨d60_, h65, h⟩ := obind h
          refine Wc.draw hmix [((none, []), none), ((none, []), none), ((some (.agg [.int .i64 c59_.gKind, .str c59_.gName, .int .i64 c59_.gNum, .sl (List.map GTerm.c c59_.gKids)]), []), none), ((some (.bool d60_), []), none)] [44] [] [] ⟨[(44, (.v (.bool (!d60_)), []))], [], []⟩ _ (by kernel_rfl) (.cons (claws_toTerm h64) (.cons (claws_eqTerm h65) .nil)) ?_
          rcases oif h with ⟨h66, h⟩ | ⟨h66, h⟩
          · refine Wc.condT h66 (by kernel_rfl) ?_
            refine Wc.seq ?_
            refine Wc.region [] [4] [] [] ⟨[(4, (.v (.bool false), []))], [], []⟩ _ (by kernel_rfl) .nil ?_
            refine Wc.ret ?_
            obtain rfl := Option.some.inj h
            exact ⟨.inl rfl, by kernel_rfl⟩
          · refine Wc.condF h66 (by kernel_rfl) ?_
            refine Wc.keep [] [] [] ⟨[], [], []⟩ (by kernel_rfl) ?_
            refine Wc.skip ?_
            refine Wc.seq ?_
            refine Wc.region [] [4] [] [] ⟨[(4, (.v (.bool true), []))], [], []⟩ _ (by kernel_rfl) .nil ?_
            refine Wc.ret ?_
            obtain rfl := Option.some.inj h
            exact ⟨.inl rfl, by kernel_rfl⟩
end Go.Proofs.Ytbpenglnebpbcaa

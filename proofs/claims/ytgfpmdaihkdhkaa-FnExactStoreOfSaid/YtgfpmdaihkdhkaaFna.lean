/- What the functions do, part 1. -/
import Derived.Test.YtgfpmdaihkdhkaaTy
set_option linter.unusedVariables false
set_option linter.unusedSimpArgs false
namespace Go.Proofs.Ytgfpmdaihkdhkaa
open Go.RowKit Go.Bv
def plaws_szTermS_L1 (k : Nat) (rlaws_szTerm : GTerm → Int → Option Int) (rlaws_szTermS : (List GTerm) → Int → Option Int) (vk : List GTerm) : Nat → Int → Int → Option (Out Int Int)
  | 0, _, _ => none
  | m + 1, u4r, u2i =>
    if (decide (u2i < (vk.length : Int))) = true then
      (at' vk u2i).bind fun u8p =>
      (rlaws_szTerm u8p u4r).bind fun u4s =>
      if (decide (u4s < 0)) = true then
        some (.ret (-1))
      else
        plaws_szTermS_L1 k rlaws_szTerm rlaws_szTermS vk m u4s (wr.i64 (u2i + 1))
    else
      some (.done u4r)
mutual
def plaws_szTerm : Nat → GTerm → Int → Option Int
  | 0, _, _ => none
  | k + 1, u12, u23 =>
    if (decide ((wr.i64 (u23 - (u12.gName.size : Int))) < 0)) = true then
      some (-1)
    else
      (plaws_szTermS k u12.gKids (wr.i64 (u23 - (u12.gName.size : Int)))).bind fun u4t =>
      if (decide (u4t < 0)) = true then
        some (-1)
      else
        some u4t
def plaws_szTermS : Nat → (List GTerm) → Int → Option Int
  | 0, _, _ => none
  | k + 1, vk, u1v =>
    if (decide ((wr.i64 (u1v - (vk.length : Int))) < 0)) = true then
      some (-1)
    else
      (plaws_szTermS_L1 k (plaws_szTerm k) (plaws_szTermS k) vk k (wr.i64 (u1v - (vk.length : Int))) 0).bind fun out1 => match out1 with
      | .ret r => some r
      | .done u6l =>
        some u6l
end
theorem all_plaws_szTerm : ∀ k : Nat, (∀ {u12 : GTerm} {u23 : Int} {r : Int}, plaws_szTerm k u12 u23 = some r → FnO Try.prog 34 [.v (.agg (GTerm.q u12)) [], .v (.int .i64 u23) []] (.v (.int .i64 r) []) []) ∧
    (∀ {vk : List GTerm} {u1v : Int} {r : Int}, plaws_szTermS k vk u1v = some r → FnO Try.prog 87 [.v (.sl (List.map GTerm.c vk)) [], .v (.int .i64 u1v) []] (.v (.int .i64 r) []) []) := by
  intro k
  induction k with
  | zero =>
    refine ⟨?_, ?_⟩
    · intro u12 u23 r h
      exact (onone (by rw [plaws_szTerm] at h; exact h)).elim
    · intro vk u1v r h
      exact (onone (by rw [plaws_szTermS] at h; exact h)).elim
  | succ k ih =>
    obtain ⟨ih_plaws_szTerm, ih_plaws_szTermS⟩ := ih
    refine ⟨?_, ?_⟩
    · intro u12 u23 r h
      rw [plaws_szTerm] at h
      refine FnO.of Try.func34 (rfl : Try.f34.body = some _) (Nat.le_of_ble_eq_true (by kernel_rfl)) (Nat.le_of_ble_eq_true (by kernel_rfl)) ?_
      intro w0 X0 Fin pv0 pb
      apply Wc.seq
      refine Wc.region [] [] [1, 2] [2] [] ⟨[(1, (.v (.int .i64 u23), [])), (2, (.ptr 2 0, []))], [(2, .cells (GTerm.q u12) [])], []⟩ _ (by kernel_rfl) .nil ?_
      apply Wc.seq
      refine Wc.region [] [] [1, 2] [2] [] ⟨[(1, (.v (.int .i64 (wr.i64 (u23 - (u12.gName.size : Int)))), [])), (2, (.ptr 2 0, []))], [(2, .cells (GTerm.q u12) [])], []⟩ _ (by kernel_rfl) .nil ?_
      apply Wc.seq
      apply Wc.seq
      refine Wc.region [] [] [1, 2, 11] [2] [] ⟨[(1, (.v (.int .i64 (wr.i64 (u23 - (u12.gName.size : Int)))), [])), (2, (.ptr 2 0, [])), (11, (.v (.bool (decide ((wr.i64 (u23 - (u12.gName.size : Int))) < 0))), []))], [(2, .cells (GTerm.q u12) [])], []⟩ _ (by kernel_rfl) .nil ?_
      rcases oif h with ⟨h1, h⟩ | ⟨h1, h⟩
      · refine Wc.condT h1 (by kernel_rfl) ?_
        apply Wc.seq
        refine Wc.region [] [] [4] [] [] ⟨[(4, (.v (.int .i64 (-1)), []))], [], []⟩ _ (by kernel_rfl) .nil ?_
        refine Wc.ret ?_
        obtain rfl := Option.some.inj h
        exact ⟨.inl rfl, by kernel_rfl, by kernel_rfl⟩
      · refine Wc.condF h1 (by kernel_rfl) ?_
        refine Wc.fix (st' := ⟨[(1, (.v (.int .i64 (wr.i64 (u23 - (u12.gName.size : Int)))), [])), (2, (.ptr 2 0, []))], [(2, .cells (GTerm.q u12) [])], []⟩) [] [1, 2] [2] [] (by kernel_rfl) ?_
        refine Wc.skip ?_
        apply Wc.seq
        obtain ⟨u4t, h2, h⟩ := obind h
        refine Wc.region [{}, {}, {}, { r := some (.v (.int .i64 u4t) []) }] [] [1] [] [] ⟨[(1, (.v (.int .i64 u4t), []))], [], []⟩ _ (by kernel_rfl) (.cons (ih_plaws_szTermS h2) .nil) ?_
        apply Wc.seq
        apply Wc.seq
        refine Wc.region [] [] [1, 17] [] [] ⟨[(1, (.v (.int .i64 u4t), [])), (17, (.v (.bool (decide (u4t < 0))), []))], [], []⟩ _ (by kernel_rfl) .nil ?_
        rcases oif h with ⟨h3, h⟩ | ⟨h3, h⟩
        · refine Wc.condT h3 (by kernel_rfl) ?_
          apply Wc.seq
          refine Wc.region [] [] [4] [] [] ⟨[(4, (.v (.int .i64 (-1)), []))], [], []⟩ _ (by kernel_rfl) .nil ?_
          refine Wc.ret ?_
          obtain rfl := Option.some.inj h
          exact ⟨.inl rfl, by kernel_rfl, by kernel_rfl⟩
        · refine Wc.condF h3 (by kernel_rfl) ?_
          refine Wc.fix (st' := ⟨[(1, (.v (.int .i64 u4t), []))], [], []⟩) [] [1] [] [] (by kernel_rfl) ?_
          refine Wc.skip ?_
          apply Wc.seq
          refine Wc.region [] [] [4] [] [] ⟨[(4, (.v (.int .i64 u4t), []))], [], []⟩ _ (by kernel_rfl) .nil ?_
          refine Wc.ret ?_
          obtain rfl := Option.some.inj h
          exact ⟨.inl rfl, by kernel_rfl, by kernel_rfl⟩
    · intro vk u1v r h
      rw [plaws_szTermS] at h
      refine FnO.of Try.func87 (rfl : Try.f87.body = some _) (Nat.le_of_ble_eq_true (by kernel_rfl)) (Nat.le_of_ble_eq_true (by kernel_rfl)) ?_
      intro w0 X0 Fin pv0 pb
      apply Wc.seq
      refine Wc.region [] [] [0, 1] [] [] ⟨[(0, (.v (.sl (List.map GTerm.c vk)), [])), (1, (.v (.int .i64 u1v), []))], [], []⟩ _ (by kernel_rfl) .nil ?_
      apply Wc.seq
      refine Wc.region [{}, {}, { v := some (.int .i64 (vk.length : Int)) }] [] [0, 1] [] [] ⟨[(0, (.v (.sl (List.map GTerm.c vk)), [])), (1, (.v (.int .i64 (wr.i64 (u1v - (vk.length : Int)))), []))], [], []⟩ _ (by kernel_rfl) (.cons (len_obl GTerm.c vk) .nil) ?_
      apply Wc.seq
      apply Wc.seq
      refine Wc.region [] [] [0, 1, 11] [] [] ⟨[(0, (.v (.sl (List.map GTerm.c vk)), [])), (1, (.v (.int .i64 (wr.i64 (u1v - (vk.length : Int)))), [])), (11, (.v (.bool (decide ((wr.i64 (u1v - (vk.length : Int))) < 0))), []))], [], []⟩ _ (by kernel_rfl) .nil ?_
      rcases oif h with ⟨h4, h⟩ | ⟨h4, h⟩
      · refine Wc.condT h4 (by kernel_rfl) ?_
        apply Wc.seq
        refine Wc.region [] [] [4] [] [] ⟨[(4, (.v (.int .i64 (-1)), []))], [], []⟩ _ (by kernel_rfl) .nil ?_
        refine Wc.ret ?_
        obtain rfl := Option.some.inj h
        exact ⟨.inl rfl, by kernel_rfl, by kernel_rfl⟩
      · refine Wc.condF h4 (by kernel_rfl) ?_
        refine Wc.fix (st' := ⟨[(0, (.v (.sl (List.map GTerm.c vk)), [])), (1, (.v (.int .i64 (wr.i64 (u1v - (vk.length : Int)))), []))], [], []⟩) [] [0, 1] [] [] (by kernel_rfl) ?_
        refine Wc.skip ?_
        apply Wc.seq
        apply Wc.seq
        refine Wc.region [] [] [0, 1, 5] [] [] ⟨[(0, (.v (.sl (List.map GTerm.c vk)), [])), (1, (.v (.int .i64 (wr.i64 (u1v - (vk.length : Int)))), [])), (5, (.v (.int .i64 0), []))], [], []⟩ _ (by kernel_rfl) .nil ?_
        obtain ⟨out1, h5, h⟩ := obind h
        refine Wc.lastJ (fun st => ∃ (u6l : Int), out1 = .done u6l ∧ st = ⟨[(1, (.v (.int .i64 u6l), []))], [], []⟩) ?_ ?_
        · refine Wc.block ?_
          refine Wc.loop (fun m st => ∃ (u4r : Int) (u2i : Int), st = ⟨[(0, (.v (.sl (List.map GTerm.c vk)), [])), (1, (.v (.int .i64 u4r), [])), (5, (.v (.int .i64 u2i), []))], [], []⟩ ∧ plaws_szTermS_L1 k (plaws_szTerm k) (plaws_szTermS k) vk m u4r u2i = some out1) ?_ k ⟨_, _, rfl, h5⟩
          rintro m st ⟨u4r, u2i, rfl, h5⟩
          cases m with
          | zero => exact (onone h5).elim
          | succ m =>
            apply Wc.seq
            apply Wc.seq
            refine Wc.region [{}, {}, { v := some (.int .i64 (vk.length : Int)) }] [] [0, 1, 5, 15] [] [] ⟨[(0, (.v (.sl (List.map GTerm.c vk)), [])), (1, (.v (.int .i64 u4r), [])), (5, (.v (.int .i64 u2i), [])), (15, (.v (.bool (decide (u2i < (vk.length : Int)))), []))], [], []⟩ _ (by kernel_rfl) (.cons (len_obl GTerm.c vk) .nil) ?_
            rcases oif h5 with ⟨h6, h5⟩ | ⟨h6, h5⟩
            · refine Wc.condT h6 (by kernel_rfl) ?_
              refine Wc.fix (st' := ⟨[(0, (.v (.sl (List.map GTerm.c vk)), [])), (1, (.v (.int .i64 u4r), [])), (5, (.v (.int .i64 u2i), []))], [], []⟩) [] [0, 1, 5] [] [] (by kernel_rfl) ?_
              refine Wc.skip ?_
              apply Wc.seq
              refine Wc.block ?_
              apply Wc.seq
              obtain ⟨u8p, h7, h5⟩ := obind h5
              obtain ⟨u4s, h8, h5⟩ := obind h5
              refine Wc.region [{}, {}, { v := some (.vptr (GTerm.q u8p)) }, {}, {}, { r := some (.v (.int .i64 u4s) []) }] [] [0, 1, 5] [] [] ⟨[(0, (.v (.sl (List.map GTerm.c vk)), [])), (1, (.v (.int .i64 u4s), [])), (5, (.v (.int .i64 u2i), []))], [], []⟩ _ (by kernel_rfl) (.cons (at_obl (c := GTerm.c) (GTerm.c_eq u8p) GTerm.c_len h7) (.cons (len_ok 4 (GTerm.q u8p)) (.cons (ih_plaws_szTerm h8) .nil))) ?_
              apply Wc.seq
              refine Wc.region [] [] [0, 1, 5, 25] [] [] ⟨[(0, (.v (.sl (List.map GTerm.c vk)), [])), (1, (.v (.int .i64 u4s), [])), (5, (.v (.int .i64 u2i), [])), (25, (.v (.bool (decide (u4s < 0))), []))], [], []⟩ _ (by kernel_rfl) .nil ?_
              rcases oif h5 with ⟨h9, h5⟩ | ⟨h9, h5⟩
              · refine Wc.condT h9 (by kernel_rfl) ?_
                apply Wc.seq
                refine Wc.region [] [] [4] [] [] ⟨[(4, (.v (.int .i64 (-1)), []))], [], []⟩ _ (by kernel_rfl) .nil ?_
                refine Wc.ret ?_
                obtain rfl := Option.some.inj h5
                obtain rfl := Option.some.inj h
                exact ⟨.inl rfl, by kernel_rfl, by kernel_rfl⟩
              · refine Wc.condF h9 (by kernel_rfl) ?_
                refine Wc.fix (st' := ⟨[(0, (.v (.sl (List.map GTerm.c vk)), [])), (1, (.v (.int .i64 u4s), [])), (5, (.v (.int .i64 u2i), []))], [], []⟩) [] [0, 1, 5] [] [] (by kernel_rfl) ?_
                refine Wc.skip ?_
                refine Wc.region [] [] [0, 1, 5] [] [] ⟨[(0, (.v (.sl (List.map GTerm.c vk)), [])), (1, (.v (.int .i64 u4s), [])), (5, (.v (.int .i64 (wr.i64 (u2i + 1))), []))], [], []⟩ _ (by kernel_rfl) .nil ?_
                exact ⟨_, Nat.lt_succ_self _, _, _, rfl, h5⟩
            · refine Wc.condF h6 (by kernel_rfl) ?_
              refine Wc.fix (st' := ⟨[(1, (.v (.int .i64 u4r), []))], [], []⟩) [] [1] [] [] (by kernel_rfl) ?_
              refine Wc.exit ?_
              obtain rfl := Option.some.inj h5
              exact ⟨_, rfl, rfl⟩
        · rintro st ⟨u6l, rfl, rfl⟩
          apply Wc.seq
          refine Wc.region [] [] [4] [] [] ⟨[(4, (.v (.int .i64 u6l), []))], [], []⟩ _ (by kernel_rfl) .nil ?_
          refine Wc.ret ?_
          obtain rfl := Option.some.inj h
          exact ⟨.inl rfl, by kernel_rfl, by kernel_rfl⟩
theorem claws_szTerm {k : Nat} {u12 : GTerm} {u23 : Int} {r : Int} (h : plaws_szTerm k u12 u23 = some r) : FnO Try.prog 34 [.v (.agg (GTerm.q u12)) [], .v (.int .i64 u23) []] (.v (.int .i64 r) []) [] := (all_plaws_szTerm k).1 h
theorem claws_szTermS {k : Nat} {vk : List GTerm} {u1v : Int} {r : Int} (h : plaws_szTermS k vk u1v = some r) : FnO Try.prog 87 [.v (.sl (List.map GTerm.c vk)) [], .v (.int .i64 u1v) []] (.v (.int .i64 r) []) [] := (all_plaws_szTerm k).2 h

def plaws_szClause (k : Nat) (u13 : GClause) (u8q : Int) : Option Int :=
  (plaws_szTerm k u13.gHead u8q).bind fun u5l =>
  if (decide (u5l < 0)) = true then
    some (-1)
  else
    (plaws_szTerm k u13.gBody u5l).bind fun u2j =>
    if (decide (u2j < 0)) = true then
      some (-1)
    else
      if (decide ((wr.i64 (u2j - (u13.gFile.size : Int))) < 0)) = true then
        some (-1)
      else
        some (wr.i64 (u2j - (u13.gFile.size : Int)))
theorem claws_szClause {k : Nat} {u13 : GClause} {u8q : Int} {r : Int} (h : plaws_szClause k u13 u8q = some r) : FnO Try.prog 25 [.v (.agg (GClause.q u13)) [], .v (.int .i64 u8q) []] (.v (.int .i64 r) []) [] := by
  refine FnO.of Try.func25 (rfl : Try.f25.body = some _) (Nat.le_of_ble_eq_true (by kernel_rfl)) (Nat.le_of_ble_eq_true (by kernel_rfl)) ?_
  intro w0 X0 Fin pv0 pb
  unfold plaws_szClause at h
  apply Wc.seq
  refine Wc.region [] [] [1, 2] [2] [] ⟨[(1, (.v (.int .i64 u8q), [])), (2, (.ptr 2 0, []))], [(2, .cells (GClause.q u13) [])], []⟩ _ (by kernel_rfl) .nil ?_
  apply Wc.seq
  obtain ⟨u5l, h10, h⟩ := obind h
  refine Wc.region [{}, {}, {}, { r := some (.v (.int .i64 u5l) []) }] [] [1, 2] [2] [] ⟨[(1, (.v (.int .i64 u5l), [])), (2, (.ptr 2 0, []))], [(2, .cells (GClause.q u13) [])], []⟩ _ (by kernel_rfl) (.cons (claws_szTerm h10) .nil) ?_
  apply Wc.seq
  apply Wc.seq
  refine Wc.region [] [] [1, 2, 10] [2] [] ⟨[(1, (.v (.int .i64 u5l), [])), (2, (.ptr 2 0, [])), (10, (.v (.bool (decide (u5l < 0))), []))], [(2, .cells (GClause.q u13) [])], []⟩ _ (by kernel_rfl) .nil ?_
  rcases oif h with ⟨h11, h⟩ | ⟨h11, h⟩
  · refine Wc.condT h11 (by kernel_rfl) ?_
    apply Wc.seq
    refine Wc.region [] [] [4] [] [] ⟨[(4, (.v (.int .i64 (-1)), []))], [], []⟩ _ (by kernel_rfl) .nil ?_
    refine Wc.ret ?_
    obtain rfl := Option.some.inj h
    exact ⟨.inl rfl, by kernel_rfl, by kernel_rfl⟩
  · refine Wc.condF h11 (by kernel_rfl) ?_
    refine Wc.fix (st' := ⟨[(1, (.v (.int .i64 u5l), [])), (2, (.ptr 2 0, []))], [(2, .cells (GClause.q u13) [])], []⟩) [] [1, 2] [2] [] (by kernel_rfl) ?_
    refine Wc.skip ?_
    apply Wc.seq
    obtain ⟨u2j, h12, h⟩ := obind h
    refine Wc.region [{}, {}, {}, { r := some (.v (.int .i64 u2j) []) }] [] [1, 2] [2] [] ⟨[(1, (.v (.int .i64 u2j), [])), (2, (.ptr 2 0, []))], [(2, .cells (GClause.q u13) [])], []⟩ _ (by kernel_rfl) (.cons (claws_szTerm h12) .nil) ?_
    apply Wc.seq
    apply Wc.seq
    refine Wc.region [] [] [1, 2, 16] [2] [] ⟨[(1, (.v (.int .i64 u2j), [])), (2, (.ptr 2 0, [])), (16, (.v (.bool (decide (u2j < 0))), []))], [(2, .cells (GClause.q u13) [])], []⟩ _ (by kernel_rfl) .nil ?_
    rcases oif h with ⟨h13, h⟩ | ⟨h13, h⟩
    · refine Wc.condT h13 (by kernel_rfl) ?_
      apply Wc.seq
      refine Wc.region [] [] [4] [] [] ⟨[(4, (.v (.int .i64 (-1)), []))], [], []⟩ _ (by kernel_rfl) .nil ?_
      refine Wc.ret ?_
      obtain rfl := Option.some.inj h
      exact ⟨.inl rfl, by kernel_rfl, by kernel_rfl⟩
    · refine Wc.condF h13 (by kernel_rfl) ?_
      refine Wc.fix (st' := ⟨[(1, (.v (.int .i64 u2j), [])), (2, (.ptr 2 0, []))], [(2, .cells (GClause.q u13) [])], []⟩) [] [1, 2] [2] [] (by kernel_rfl) ?_
      refine Wc.skip ?_
      apply Wc.seq
      refine Wc.region [] [] [1] [] [] ⟨[(1, (.v (.int .i64 (wr.i64 (u2j - (u13.gFile.size : Int)))), []))], [], []⟩ _ (by kernel_rfl) .nil ?_
      apply Wc.seq
      apply Wc.seq
      refine Wc.region [] [] [1, 23] [] [] ⟨[(1, (.v (.int .i64 (wr.i64 (u2j - (u13.gFile.size : Int)))), [])), (23, (.v (.bool (decide ((wr.i64 (u2j - (u13.gFile.size : Int))) < 0))), []))], [], []⟩ _ (by kernel_rfl) .nil ?_
      rcases oif h with ⟨h14, h⟩ | ⟨h14, h⟩
      · refine Wc.condT h14 (by kernel_rfl) ?_
        apply Wc.seq
        refine Wc.region [] [] [4] [] [] ⟨[(4, (.v (.int .i64 (-1)), []))], [], []⟩ _ (by kernel_rfl) .nil ?_
        refine Wc.ret ?_
        obtain rfl := Option.some.inj h
        exact ⟨.inl rfl, by kernel_rfl, by kernel_rfl⟩
      · refine Wc.condF h14 (by kernel_rfl) ?_
        refine Wc.fix (st' := ⟨[(1, (.v (.int .i64 (wr.i64 (u2j - (u13.gFile.size : Int)))), []))], [], []⟩) [] [1] [] [] (by kernel_rfl) ?_
        refine Wc.skip ?_
        apply Wc.seq
        refine Wc.region [] [] [4] [] [] ⟨[(4, (.v (.int .i64 (wr.i64 (u2j - (u13.gFile.size : Int)))), []))], [], []⟩ _ (by kernel_rfl) .nil ?_
        refine Wc.ret ?_
        obtain rfl := Option.some.inj h
        exact ⟨.inl rfl, by kernel_rfl, by kernel_rfl⟩

def plaws_szClauseS_L1 (k : Nat) (vz : List GClause) : Nat → Int → Int → Option (Out Int Int)
  | 0, _, _ => none
  | m + 1, u4u, u2k =>
    if (decide (u2k < (vz.length : Int))) = true then
      (at' vz u2k).bind fun u8r =>
      (plaws_szClause k u8r u4u).bind fun u4v =>
      if (decide (u4v < 0)) = true then
        some (.ret (-1))
      else
        plaws_szClauseS_L1 k vz m u4v (wr.i64 (u2k + 1))
    else
      some (.done u4u)
def plaws_szClauseS (k : Nat) (vz : List GClause) (u43 : Int) : Option Int :=
  if (decide ((wr.i64 (u43 - (vz.length : Int))) < 0)) = true then
    some (-1)
  else
    (plaws_szClauseS_L1 k vz k (wr.i64 (u43 - (vz.length : Int))) 0).bind fun out1 => match out1 with
    | .ret r => some r
    | .done u6m =>
      some u6m
theorem claws_szClauseS {k : Nat} {vz : List GClause} {u43 : Int} {r : Int} (h : plaws_szClauseS k vz u43 = some r) : FnO Try.prog 48 [.v (.sl (List.map GClause.c vz)) [], .v (.int .i64 u43) []] (.v (.int .i64 r) []) [] := by
  refine FnO.of Try.func48 (rfl : Try.f48.body = some _) (Nat.le_of_ble_eq_true (by kernel_rfl)) (Nat.le_of_ble_eq_true (by kernel_rfl)) ?_
  intro w0 X0 Fin pv0 pb
  unfold plaws_szClauseS at h
  apply Wc.seq
  refine Wc.region [] [] [0, 1] [] [] ⟨[(0, (.v (.sl (List.map GClause.c vz)), [])), (1, (.v (.int .i64 u43), []))], [], []⟩ _ (by kernel_rfl) .nil ?_
  apply Wc.seq
  refine Wc.region [{}, {}, { v := some (.int .i64 (vz.length : Int)) }] [] [0, 1] [] [] ⟨[(0, (.v (.sl (List.map GClause.c vz)), [])), (1, (.v (.int .i64 (wr.i64 (u43 - (vz.length : Int)))), []))], [], []⟩ _ (by kernel_rfl) (.cons (len_obl GClause.c vz) .nil) ?_
  apply Wc.seq
  apply Wc.seq
  refine Wc.region [] [] [0, 1, 11] [] [] ⟨[(0, (.v (.sl (List.map GClause.c vz)), [])), (1, (.v (.int .i64 (wr.i64 (u43 - (vz.length : Int)))), [])), (11, (.v (.bool (decide ((wr.i64 (u43 - (vz.length : Int))) < 0))), []))], [], []⟩ _ (by kernel_rfl) .nil ?_
  rcases oif h with ⟨h15, h⟩ | ⟨h15, h⟩
  · refine Wc.condT h15 (by kernel_rfl) ?_
    apply Wc.seq
    refine Wc.region [] [] [4] [] [] ⟨[(4, (.v (.int .i64 (-1)), []))], [], []⟩ _ (by kernel_rfl) .nil ?_
    refine Wc.ret ?_
    obtain rfl := Option.some.inj h
    exact ⟨.inl rfl, by kernel_rfl, by kernel_rfl⟩
  · refine Wc.condF h15 (by kernel_rfl) ?_
    refine Wc.fix (st' := ⟨[(0, (.v (.sl (List.map GClause.c vz)), [])), (1, (.v (.int .i64 (wr.i64 (u43 - (vz.length : Int)))), []))], [], []⟩) [] [0, 1] [] [] (by kernel_rfl) ?_
    refine Wc.skip ?_
    apply Wc.seq
    apply Wc.seq
    refine Wc.region [] [] [0, 1, 5] [] [] ⟨[(0, (.v (.sl (List.map GClause.c vz)), [])), (1, (.v (.int .i64 (wr.i64 (u43 - (vz.length : Int)))), [])), (5, (.v (.int .i64 0), []))], [], []⟩ _ (by kernel_rfl) .nil ?_
    obtain ⟨out1, h16, h⟩ := obind h
    refine Wc.lastJ (fun st => ∃ (u6m : Int), out1 = .done u6m ∧ st = ⟨[(1, (.v (.int .i64 u6m), []))], [], []⟩) ?_ ?_
    · refine Wc.block ?_
      refine Wc.loop (fun m st => ∃ (u4u : Int) (u2k : Int), st = ⟨[(0, (.v (.sl (List.map GClause.c vz)), [])), (1, (.v (.int .i64 u4u), [])), (5, (.v (.int .i64 u2k), []))], [], []⟩ ∧ plaws_szClauseS_L1 k vz m u4u u2k = some out1) ?_ k ⟨_, _, rfl, h16⟩
      rintro m st ⟨u4u, u2k, rfl, h16⟩
      cases m with
      | zero => exact (onone h16).elim
      | succ m =>
        apply Wc.seq
        apply Wc.seq
        refine Wc.region [{}, {}, { v := some (.int .i64 (vz.length : Int)) }] [] [0, 1, 5, 15] [] [] ⟨[(0, (.v (.sl (List.map GClause.c vz)), [])), (1, (.v (.int .i64 u4u), [])), (5, (.v (.int .i64 u2k), [])), (15, (.v (.bool (decide (u2k < (vz.length : Int)))), []))], [], []⟩ _ (by kernel_rfl) (.cons (len_obl GClause.c vz) .nil) ?_
        rcases oif h16 with ⟨h17, h16⟩ | ⟨h17, h16⟩
        · refine Wc.condT h17 (by kernel_rfl) ?_
          refine Wc.fix (st' := ⟨[(0, (.v (.sl (List.map GClause.c vz)), [])), (1, (.v (.int .i64 u4u), [])), (5, (.v (.int .i64 u2k), []))], [], []⟩) [] [0, 1, 5] [] [] (by kernel_rfl) ?_
          refine Wc.skip ?_
          apply Wc.seq
          refine Wc.block ?_
          apply Wc.seq
          obtain ⟨u8r, h18, h16⟩ := obind h16
          obtain ⟨u4v, h19, h16⟩ := obind h16
          refine Wc.region [{}, {}, { v := some (.vptr (GClause.q u8r)) }, {}, {}, { r := some (.v (.int .i64 u4v) []) }] [] [0, 1, 5] [] [] ⟨[(0, (.v (.sl (List.map GClause.c vz)), [])), (1, (.v (.int .i64 u4v), [])), (5, (.v (.int .i64 u2k), []))], [], []⟩ _ (by kernel_rfl) (.cons (at_obl (c := GClause.c) (GClause.c_eq u8r) GClause.c_len h18) (.cons (len_ok 9 (GClause.q u8r)) (.cons (claws_szClause h19) .nil))) ?_
          apply Wc.seq
          refine Wc.region [] [] [0, 1, 5, 25] [] [] ⟨[(0, (.v (.sl (List.map GClause.c vz)), [])), (1, (.v (.int .i64 u4v), [])), (5, (.v (.int .i64 u2k), [])), (25, (.v (.bool (decide (u4v < 0))), []))], [], []⟩ _ (by kernel_rfl) .nil ?_
          rcases oif h16 with ⟨h20, h16⟩ | ⟨h20, h16⟩
          · refine Wc.condT h20 (by kernel_rfl) ?_
            apply Wc.seq
            refine Wc.region [] [] [4] [] [] ⟨[(4, (.v (.int .i64 (-1)), []))], [], []⟩ _ (by kernel_rfl) .nil ?_
            refine Wc.ret ?_
            obtain rfl := Option.some.inj h16
            obtain rfl := Option.some.inj h
            exact ⟨.inl rfl, by kernel_rfl, by kernel_rfl⟩
          · refine Wc.condF h20 (by kernel_rfl) ?_
            refine Wc.fix (st' := ⟨[(0, (.v (.sl (List.map GClause.c vz)), [])), (1, (.v (.int .i64 u4v), [])), (5, (.v (.int .i64 u2k), []))], [], []⟩) [] [0, 1, 5] [] [] (by kernel_rfl) ?_
            refine Wc.skip ?_
            refine Wc.region [] [] [0, 1, 5] [] [] ⟨[(0, (.v (.sl (List.map GClause.c vz)), [])), (1, (.v (.int .i64 u4v), [])), (5, (.v (.int .i64 (wr.i64 (u2k + 1))), []))], [], []⟩ _ (by kernel_rfl) .nil ?_
            exact ⟨_, Nat.lt_succ_self _, _, _, rfl, h16⟩
        · refine Wc.condF h17 (by kernel_rfl) ?_
          refine Wc.fix (st' := ⟨[(1, (.v (.int .i64 u4u), []))], [], []⟩) [] [1] [] [] (by kernel_rfl) ?_
          refine Wc.exit ?_
          obtain rfl := Option.some.inj h16
          exact ⟨_, rfl, rfl⟩
    · rintro st ⟨u6m, rfl, rfl⟩
      apply Wc.seq
      refine Wc.region [] [] [4] [] [] ⟨[(4, (.v (.int .i64 u6m), []))], [], []⟩ _ (by kernel_rfl) .nil ?_
      refine Wc.ret ?_
      obtain rfl := Option.some.inj h
      exact ⟨.inl rfl, by kernel_rfl, by kernel_rfl⟩

def plaws_szStringS_L1 (k : Nat) (z0 : List ByteArray) : Nat → Int → Int → Option (Out Int Int)
  | 0, _, _ => none
  | m + 1, u24, u2l =>
    if (decide (u2l < (z0.length : Int))) = true then
      (at' z0 u2l).bind fun u4i =>
      if (decide ((wr.i64 (u24 - (u4i.size : Int))) < 0)) = true then
        some (.ret (-1))
      else
        plaws_szStringS_L1 k z0 m (wr.i64 (u24 - (u4i.size : Int))) (wr.i64 (u2l + 1))
    else
      some (.done u24)
def plaws_szStringS (k : Nat) (z0 : List ByteArray) (u44 : Int) : Option Int :=
  if (decide ((wr.i64 (u44 - (z0.length : Int))) < 0)) = true then
    some (-1)
  else
    (plaws_szStringS_L1 k z0 k (wr.i64 (u44 - (z0.length : Int))) 0).bind fun out1 => match out1 with
    | .ret r => some r
    | .done u6n =>
      some u6n
theorem claws_szStringS {k : Nat} {z0 : List ByteArray} {u44 : Int} {r : Int} (h : plaws_szStringS k z0 u44 = some r) : FnO Try.prog 49 [.v (.sl (List.map cS z0)) [], .v (.int .i64 u44) []] (.v (.int .i64 r) []) [] := by
  refine FnO.of Try.func49 (rfl : Try.f49.body = some _) (Nat.le_of_ble_eq_true (by kernel_rfl)) (Nat.le_of_ble_eq_true (by kernel_rfl)) ?_
  intro w0 X0 Fin pv0 pb
  unfold plaws_szStringS at h
  apply Wc.seq
  refine Wc.region [] [] [0, 1] [] [] ⟨[(0, (.v (.sl (List.map cS z0)), [])), (1, (.v (.int .i64 u44), []))], [], []⟩ _ (by kernel_rfl) .nil ?_
  apply Wc.seq
  refine Wc.region [{}, {}, { v := some (.int .i64 (z0.length : Int)) }] [] [0, 1] [] [] ⟨[(0, (.v (.sl (List.map cS z0)), [])), (1, (.v (.int .i64 (wr.i64 (u44 - (z0.length : Int)))), []))], [], []⟩ _ (by kernel_rfl) (.cons (len_obl cS z0) .nil) ?_
  apply Wc.seq
  apply Wc.seq
  refine Wc.region [] [] [0, 1, 11] [] [] ⟨[(0, (.v (.sl (List.map cS z0)), [])), (1, (.v (.int .i64 (wr.i64 (u44 - (z0.length : Int)))), [])), (11, (.v (.bool (decide ((wr.i64 (u44 - (z0.length : Int))) < 0))), []))], [], []⟩ _ (by kernel_rfl) .nil ?_
  rcases oif h with ⟨h21, h⟩ | ⟨h21, h⟩
  · refine Wc.condT h21 (by kernel_rfl) ?_
    apply Wc.seq
    refine Wc.region [] [] [4] [] [] ⟨[(4, (.v (.int .i64 (-1)), []))], [], []⟩ _ (by kernel_rfl) .nil ?_
    refine Wc.ret ?_
    obtain rfl := Option.some.inj h
    exact ⟨.inl rfl, by kernel_rfl, by kernel_rfl⟩
  · refine Wc.condF h21 (by kernel_rfl) ?_
    refine Wc.fix (st' := ⟨[(0, (.v (.sl (List.map cS z0)), [])), (1, (.v (.int .i64 (wr.i64 (u44 - (z0.length : Int)))), []))], [], []⟩) [] [0, 1] [] [] (by kernel_rfl) ?_
    refine Wc.skip ?_
    apply Wc.seq
    apply Wc.seq
    refine Wc.region [] [] [0, 1, 5] [] [] ⟨[(0, (.v (.sl (List.map cS z0)), [])), (1, (.v (.int .i64 (wr.i64 (u44 - (z0.length : Int)))), [])), (5, (.v (.int .i64 0), []))], [], []⟩ _ (by kernel_rfl) .nil ?_
    obtain ⟨out1, h22, h⟩ := obind h
    refine Wc.lastJ (fun st => ∃ (u6n : Int), out1 = .done u6n ∧ st = ⟨[(1, (.v (.int .i64 u6n), []))], [], []⟩) ?_ ?_
    · refine Wc.block ?_
      refine Wc.loop (fun m st => ∃ (u24 : Int) (u2l : Int), st = ⟨[(0, (.v (.sl (List.map cS z0)), [])), (1, (.v (.int .i64 u24), [])), (5, (.v (.int .i64 u2l), []))], [], []⟩ ∧ plaws_szStringS_L1 k z0 m u24 u2l = some out1) ?_ k ⟨_, _, rfl, h22⟩
      rintro m st ⟨u24, u2l, rfl, h22⟩
      cases m with
      | zero => exact (onone h22).elim
      | succ m =>
        apply Wc.seq
        apply Wc.seq
        refine Wc.region [{}, {}, { v := some (.int .i64 (z0.length : Int)) }] [] [0, 1, 5, 15] [] [] ⟨[(0, (.v (.sl (List.map cS z0)), [])), (1, (.v (.int .i64 u24), [])), (5, (.v (.int .i64 u2l), [])), (15, (.v (.bool (decide (u2l < (z0.length : Int)))), []))], [], []⟩ _ (by kernel_rfl) (.cons (len_obl cS z0) .nil) ?_
        rcases oif h22 with ⟨h23, h22⟩ | ⟨h23, h22⟩
        · refine Wc.condT h23 (by kernel_rfl) ?_
          refine Wc.fix (st' := ⟨[(0, (.v (.sl (List.map cS z0)), [])), (1, (.v (.int .i64 u24), [])), (5, (.v (.int .i64 u2l), []))], [], []⟩) [] [0, 1, 5] [] [] (by kernel_rfl) ?_
          refine Wc.skip ?_
          apply Wc.seq
          refine Wc.block ?_
          apply Wc.seq
          obtain ⟨u4i, h24, h22⟩ := obind h22
          refine Wc.region [{}, {}, {}, { v := some (.vptr [.str u4i]) }] [] [0, 1, 5] [] [] ⟨[(0, (.v (.sl (List.map cS z0)), [])), (1, (.v (.int .i64 (wr.i64 (u24 - (u4i.size : Int)))), [])), (5, (.v (.int .i64 u2l), []))], [], []⟩ _ (by kernel_rfl) (.cons (at_obl (c := cS) rfl cS_len h24) (.cons (len_ok 1 [.str u4i]) .nil)) ?_
          apply Wc.seq
          refine Wc.region [] [] [0, 1, 5, 26] [] [] ⟨[(0, (.v (.sl (List.map cS z0)), [])), (1, (.v (.int .i64 (wr.i64 (u24 - (u4i.size : Int)))), [])), (5, (.v (.int .i64 u2l), [])), (26, (.v (.bool (decide ((wr.i64 (u24 - (u4i.size : Int))) < 0))), []))], [], []⟩ _ (by kernel_rfl) .nil ?_
          rcases oif h22 with ⟨h25, h22⟩ | ⟨h25, h22⟩
          · refine Wc.condT h25 (by kernel_rfl) ?_
            apply Wc.seq
            refine Wc.region [] [] [4] [] [] ⟨[(4, (.v (.int .i64 (-1)), []))], [], []⟩ _ (by kernel_rfl) .nil ?_
            refine Wc.ret ?_
            obtain rfl := Option.some.inj h22
            obtain rfl := Option.some.inj h
            exact ⟨.inl rfl, by kernel_rfl, by kernel_rfl⟩
          · refine Wc.condF h25 (by kernel_rfl) ?_
            refine Wc.fix (st' := ⟨[(0, (.v (.sl (List.map cS z0)), [])), (1, (.v (.int .i64 (wr.i64 (u24 - (u4i.size : Int)))), [])), (5, (.v (.int .i64 u2l), []))], [], []⟩) [] [0, 1, 5] [] [] (by kernel_rfl) ?_
            refine Wc.skip ?_
            refine Wc.region [] [] [0, 1, 5] [] [] ⟨[(0, (.v (.sl (List.map cS z0)), [])), (1, (.v (.int .i64 (wr.i64 (u24 - (u4i.size : Int)))), [])), (5, (.v (.int .i64 (wr.i64 (u2l + 1))), []))], [], []⟩ _ (by kernel_rfl) .nil ?_
            exact ⟨_, Nat.lt_succ_self _, _, _, rfl, h22⟩
        · refine Wc.condF h23 (by kernel_rfl) ?_
          refine Wc.fix (st' := ⟨[(1, (.v (.int .i64 u24), []))], [], []⟩) [] [1] [] [] (by kernel_rfl) ?_
          refine Wc.exit ?_
          obtain rfl := Option.some.inj h22
          exact ⟨_, rfl, rfl⟩
    · rintro st ⟨u6n, rfl, rfl⟩
      apply Wc.seq
      refine Wc.region [] [] [4] [] [] ⟨[(4, (.v (.int .i64 u6n), []))], [], []⟩ _ (by kernel_rfl) .nil ?_
      refine Wc.ret ?_
      obtain rfl := Option.some.inj h
      exact ⟨.inl rfl, by kernel_rfl, by kernel_rfl⟩

def plaws_szDb (k : Nat) (u4w : GDb) (u8s : Int) : Option Int :=
  (plaws_szClauseS k u4w.gClauses u8s).bind fun u5m =>
  if (decide (u5m < 0)) = true then
    some (-1)
  else
    (plaws_szStringS k u4w.gOpen u5m).bind fun u4x =>
    if (decide (u4x < 0)) = true then
      some (-1)
    else
      some u4x
theorem claws_szDb {k : Nat} {u4w : GDb} {u8s : Int} {r : Int} (h : plaws_szDb k u4w u8s = some r) : FnO Try.prog 9 [.v (.agg (GDb.q u4w)) [], .v (.int .i64 u8s) []] (.v (.int .i64 r) []) [] := by
  refine FnO.of Try.func9 (rfl : Try.f9.body = some _) (Nat.le_of_ble_eq_true (by kernel_rfl)) (Nat.le_of_ble_eq_true (by kernel_rfl)) ?_
  intro w0 X0 Fin pv0 pb
  unfold plaws_szDb at h
  apply Wc.seq
  refine Wc.region [] [] [1, 2] [2] [] ⟨[(1, (.v (.int .i64 u8s), [])), (2, (.ptr 2 0, []))], [(2, .cells (GDb.q u4w) [])], []⟩ _ (by kernel_rfl) .nil ?_
  apply Wc.seq
  obtain ⟨u5m, h26, h⟩ := obind h
  refine Wc.region [{}, {}, {}, { r := some (.v (.int .i64 u5m) []) }] [] [1, 2] [2] [] ⟨[(1, (.v (.int .i64 u5m), [])), (2, (.ptr 2 0, []))], [(2, .cells (GDb.q u4w) [])], []⟩ _ (by kernel_rfl) (.cons (claws_szClauseS h26) .nil) ?_
  apply Wc.seq
  apply Wc.seq
  refine Wc.region [] [] [1, 2, 10] [2] [] ⟨[(1, (.v (.int .i64 u5m), [])), (2, (.ptr 2 0, [])), (10, (.v (.bool (decide (u5m < 0))), []))], [(2, .cells (GDb.q u4w) [])], []⟩ _ (by kernel_rfl) .nil ?_
  rcases oif h with ⟨h27, h⟩ | ⟨h27, h⟩
  · refine Wc.condT h27 (by kernel_rfl) ?_
    apply Wc.seq
    refine Wc.region [] [] [4] [] [] ⟨[(4, (.v (.int .i64 (-1)), []))], [], []⟩ _ (by kernel_rfl) .nil ?_
    refine Wc.ret ?_
    obtain rfl := Option.some.inj h
    exact ⟨.inl rfl, by kernel_rfl, by kernel_rfl⟩
  · refine Wc.condF h27 (by kernel_rfl) ?_
    refine Wc.fix (st' := ⟨[(1, (.v (.int .i64 u5m), [])), (2, (.ptr 2 0, []))], [(2, .cells (GDb.q u4w) [])], []⟩) [] [1, 2] [2] [] (by kernel_rfl) ?_
    refine Wc.skip ?_
    apply Wc.seq
    obtain ⟨u4x, h28, h⟩ := obind h
    refine Wc.region [{}, {}, {}, { r := some (.v (.int .i64 u4x) []) }] [] [1] [] [] ⟨[(1, (.v (.int .i64 u4x), []))], [], []⟩ _ (by kernel_rfl) (.cons (claws_szStringS h28) .nil) ?_
    apply Wc.seq
    apply Wc.seq
    refine Wc.region [] [] [1, 16] [] [] ⟨[(1, (.v (.int .i64 u4x), [])), (16, (.v (.bool (decide (u4x < 0))), []))], [], []⟩ _ (by kernel_rfl) .nil ?_
    rcases oif h with ⟨h29, h⟩ | ⟨h29, h⟩
    · refine Wc.condT h29 (by kernel_rfl) ?_
      apply Wc.seq
      refine Wc.region [] [] [4] [] [] ⟨[(4, (.v (.int .i64 (-1)), []))], [], []⟩ _ (by kernel_rfl) .nil ?_
      refine Wc.ret ?_
      obtain rfl := Option.some.inj h
      exact ⟨.inl rfl, by kernel_rfl, by kernel_rfl⟩
    · refine Wc.condF h29 (by kernel_rfl) ?_
      refine Wc.fix (st' := ⟨[(1, (.v (.int .i64 u4x), []))], [], []⟩) [] [1] [] [] (by kernel_rfl) ?_
      refine Wc.skip ?_
      apply Wc.seq
      refine Wc.region [] [] [4] [] [] ⟨[(4, (.v (.int .i64 u4x), []))], [], []⟩ _ (by kernel_rfl) .nil ?_
      refine Wc.ret ?_
      obtain rfl := Option.some.inj h
      exact ⟨.inl rfl, by kernel_rfl, by kernel_rfl⟩

def plaws_toTermS_L1 (k : Nat) (rlaws_toTerm : GTerm → Option GTerm) (rlaws_toTermS : (List GTerm) → Option (List GTerm)) (vw : List GTerm) : Nat → (List GTerm) → Int → Option (Out (List GTerm) (List GTerm))
  | 0, _, _ => none
  | m + 1, u33, u1i =>
    if (decide (u1i < (vw.length : Int))) = true then
      (at' vw u1i).bind fun u8t =>
      (rlaws_toTerm u8t).bind fun u5n =>
      (at' u33 u1i).bind fun uc2 =>
      plaws_toTermS_L1 k rlaws_toTerm rlaws_toTermS vw m (u33.set ((u1i).toNat) u5n) (wr.i64 (u1i + 1))
    else
      some (.done u33)
mutual
def plaws_toTerm : Nat → GTerm → Option GTerm
  | 0, _ => none
  | k + 1, ze =>
    (plaws_toTermS k ze.gKids).bind fun u8u =>
    some (GTerm.mk ze.gKind ze.gName ze.gNum u8u)
def plaws_toTermS : Nat → (List GTerm) → Option (List GTerm)
  | 0, _ => none
  | k + 1, vw =>
    if 0 ≤ (vw.length : Int) ∧ (vw.length : Int) ≤ 1073741824 then
      (plaws_toTermS_L1 k (plaws_toTerm k) (plaws_toTermS k) vw k (List.replicate ((vw.length : Int)).toNat (GTerm.mk 0 (bs []) 0 [])) 0).bind fun out1 => match out1 with
      | .ret r => some r
      | .done u68 =>
        some u68
    else none
end
theorem all_plaws_toTerm : ∀ k : Nat, (∀ {ze : GTerm} {r : GTerm}, plaws_toTerm k ze = some r → FnO Try.prog 36 [.v (.agg (GTerm.q ze)) []] (.v (.agg (GTerm.q r)) []) []) ∧
    (∀ {vw : List GTerm} {r : (List GTerm)}, plaws_toTermS k vw = some r → FnO Try.prog 90 [.v (.sl (List.map GTerm.c vw)) []] (.v (.sl (List.map GTerm.c r)) []) []) := by
  intro k
  induction k with
  | zero =>
    refine ⟨?_, ?_⟩
    · intro ze r h
      exact (onone (by rw [plaws_toTerm] at h; exact h)).elim
    · intro vw r h
      exact (onone (by rw [plaws_toTermS] at h; exact h)).elim
  | succ k ih =>
    obtain ⟨ih_plaws_toTerm, ih_plaws_toTermS⟩ := ih
    refine ⟨?_, ?_⟩
    · intro ze r h
      rw [plaws_toTerm] at h
      refine FnO.of Try.func36 (rfl : Try.f36.body = some _) (Nat.le_of_ble_eq_true (by kernel_rfl)) (Nat.le_of_ble_eq_true (by kernel_rfl)) ?_
      intro w0 X0 Fin pv0 pb
      apply Wc.seq
      refine Wc.region [] [] [1, 2] [1, 2] [] ⟨[(1, (.ptr 1 0, [])), (2, (.ptr 2 0, []))], [(1, .cells (GTerm.q ze) []), (2, .cells [.int .i64 0, .str (bs []), .int .i64 0, .sl (List.map GTerm.c [])] [(3, .app 42)])], []⟩ _ (by kernel_rfl) .nil ?_
      apply Wc.seq
      refine Wc.region [] [] [1, 2, 3] [1, 2, 3] [] ⟨[(1, (.ptr 1 0, [])), (2, (.ptr 2 0, [])), (3, (.ptr 3 0, []))], [(1, .cells (GTerm.q ze) []), (2, .cells [.int .i64 0, .str (bs []), .int .i64 0, .sl (List.map GTerm.c [])] [(3, .app 42)]), (3, .cells [.int .i64 0, .str (bs []), .int .i64 0, .sl (List.map GTerm.c [])] [(3, .app 42)])], []⟩ _ (by kernel_rfl) .nil ?_
      apply Wc.seq
      refine Wc.region [] [] [1, 2, 3] [1, 2, 3] [] ⟨[(1, (.ptr 1 0, [])), (2, (.ptr 2 0, [])), (3, (.ptr 3 0, []))], [(1, .cells (GTerm.q ze) []), (2, .cells [.int .i64 0, .str (bs []), .int .i64 0, .sl (List.map GTerm.c [])] [(3, .app 42)]), (3, .cells [.int .i64 ze.gKind, .str (bs []), .int .i64 0, .sl (List.map GTerm.c [])] [(3, .app 42)])], []⟩ _ (by kernel_rfl) .nil ?_
      apply Wc.seq
      refine Wc.region [] [] [1, 2, 3] [1, 2, 3] [] ⟨[(1, (.ptr 1 0, [])), (2, (.ptr 2 0, [])), (3, (.ptr 3 0, []))], [(1, .cells (GTerm.q ze) []), (2, .cells [.int .i64 0, .str (bs []), .int .i64 0, .sl (List.map GTerm.c [])] [(3, .app 42)]), (3, .cells [.int .i64 ze.gKind, .str ze.gName, .int .i64 0, .sl (List.map GTerm.c [])] [(3, .app 42)])], []⟩ _ (by kernel_rfl) .nil ?_
      apply Wc.seq
      refine Wc.region [] [] [1, 2, 3] [1, 2, 3] [] ⟨[(1, (.ptr 1 0, [])), (2, (.ptr 2 0, [])), (3, (.ptr 3 0, []))], [(1, .cells (GTerm.q ze) []), (2, .cells [.int .i64 0, .str (bs []), .int .i64 0, .sl (List.map GTerm.c [])] [(3, .app 42)]), (3, .cells [.int .i64 ze.gKind, .str ze.gName, .int .i64 ze.gNum, .sl (List.map GTerm.c [])] [(3, .app 42)])], []⟩ _ (by kernel_rfl) .nil ?_
      apply Wc.seq
      obtain ⟨u8u, h30, h⟩ := obind h
      refine Wc.region [{}, {}, { r := some (.v (.sl (List.map GTerm.c u8u)) []) }] [] [2, 3] [2, 3] [] ⟨[(2, (.ptr 2 0, [])), (3, (.ptr 3 0, []))], [(2, .cells [.int .i64 0, .str (bs []), .int .i64 0, .sl (List.map GTerm.c [])] [(3, .app 42)]), (3, .cells [.int .i64 ze.gKind, .str ze.gName, .int .i64 ze.gNum, .sl (List.map GTerm.c u8u)] [])], []⟩ _ (by kernel_rfl) (.cons (ih_plaws_toTermS h30) .nil) ?_
      apply Wc.seq
      refine Wc.region [] [] [2] [2] [] ⟨[(2, (.ptr 2 0, []))], [(2, .cells [.int .i64 ze.gKind, .str ze.gName, .int .i64 ze.gNum, .sl (List.map GTerm.c u8u)] [])], []⟩ _ (by kernel_rfl) .nil ?_
      refine Wc.ret ?_
      obtain rfl := Option.some.inj h
      exact ⟨.inl rfl, by kernel_rfl, by kernel_rfl⟩
    · intro vw r h
      rw [plaws_toTermS] at h
      refine FnO.of Try.func90 (rfl : Try.f90.body = some _) (Nat.le_of_ble_eq_true (by kernel_rfl)) (Nat.le_of_ble_eq_true (by kernel_rfl)) ?_
      intro w0 X0 Fin pv0 pb
      apply Wc.seq
      refine Wc.region [] [] [0] [] [] ⟨[(0, (.v (.sl (List.map GTerm.c vw)), []))], [], []⟩ _ (by kernel_rfl) .nil ?_
      apply Wc.seq
      obtain ⟨h31, h⟩ := oguard h
      refine Wc.region [{}, { v := some (.int .i64 (vw.length : Int)) }, { c := some (List.map GTerm.c (List.replicate ((vw.length : Int)).toNat (GTerm.mk 0 (bs []) 0 []))) }, { tk := [7], fx := [.ag (.t 7 0)] }] [] [0, 3] [] [] ⟨[(0, (.v (.sl (List.map GTerm.c vw)), [])), (3, (.v (.slx), [(0, .ex 42 false (List.map GTerm.c (List.replicate ((vw.length : Int)).toNat (GTerm.mk 0 (bs []) 0 []))))]))], [], []⟩ _ (by kernel_rfl) (.cons (len_obl GTerm.c vw) (.cons (rep_re (c := GTerm.c) (z := (GTerm.mk 0 (bs []) 0 [])) (GTerm.c_eq (GTerm.mk 0 (bs []) 0 [])) ((vw.length : Int)).toNat) (.cons (ms_obl h31) .nil))) ?_
      apply Wc.seq
      apply Wc.seq
      refine Wc.region [] [] [0, 3, 4] [] [] ⟨[(0, (.v (.sl (List.map GTerm.c vw)), [])), (3, (.v (.slx), [(0, .ex 42 false (List.map GTerm.c (List.replicate ((vw.length : Int)).toNat (GTerm.mk 0 (bs []) 0 []))))])), (4, (.v (.int .i64 0), []))], [], []⟩ _ (by kernel_rfl) .nil ?_
      obtain ⟨out1, h32, h⟩ := obind h
      refine Wc.lastJ (fun st => ∃ (u68 : List GTerm), out1 = .done u68 ∧ st = ⟨[(3, (.v (.slx), [(0, .ex 42 false (List.map GTerm.c u68))]))], [], []⟩) ?_ ?_
      · refine Wc.block ?_
        refine Wc.loop (fun m st => ∃ (u33 : List GTerm) (u1i : Int), st = ⟨[(0, (.v (.sl (List.map GTerm.c vw)), [])), (3, (.v (.slx), [(0, .ex 42 false (List.map GTerm.c u33))])), (4, (.v (.int .i64 u1i), []))], [], []⟩ ∧ plaws_toTermS_L1 k (plaws_toTerm k) (plaws_toTermS k) vw m u33 u1i = some out1) ?_ k ⟨_, _, rfl, h32⟩
        rintro m st ⟨u33, u1i, rfl, h32⟩
        cases m with
        | zero => exact (onone h32).elim
        | succ m =>
          apply Wc.seq
          apply Wc.seq
          refine Wc.region [{}, {}, { v := some (.int .i64 (vw.length : Int)) }] [] [0, 3, 4, 11] [] [] ⟨[(0, (.v (.sl (List.map GTerm.c vw)), [])), (3, (.v (.slx), [(0, .ex 42 false (List.map GTerm.c u33))])), (4, (.v (.int .i64 u1i), [])), (11, (.v (.bool (decide (u1i < (vw.length : Int)))), []))], [], []⟩ _ (by kernel_rfl) (.cons (len_obl GTerm.c vw) .nil) ?_
          rcases oif h32 with ⟨h33, h32⟩ | ⟨h33, h32⟩
          · refine Wc.condT h33 (by kernel_rfl) ?_
            refine Wc.fix (st' := ⟨[(0, (.v (.sl (List.map GTerm.c vw)), [])), (3, (.v (.slx), [(0, .ex 42 false (List.map GTerm.c u33))])), (4, (.v (.int .i64 u1i), []))], [], []⟩) [] [0, 3, 4] [] [] (by kernel_rfl) ?_
            refine Wc.skip ?_
            apply Wc.seq
            refine Wc.block ?_
            obtain ⟨u8t, h34, h32⟩ := obind h32
            obtain ⟨u5n, h35, h32⟩ := obind h32
            obtain ⟨uc2, h36, h32⟩ := obind h32
            refine Wc.region [{}, {}, {}, {}, { v := some (.vptr (GTerm.q u8t)) }, {}, { r := some (.v (.agg (GTerm.q u5n)) []) }, {}, { c := some (List.map GTerm.c (u33.set ((u1i).toNat) u5n)) }] [] [0, 3, 4] [] [] ⟨[(0, (.v (.sl (List.map GTerm.c vw)), [])), (3, (.v (.slx), [(0, .ex 42 false (List.map GTerm.c (u33.set ((u1i).toNat) u5n)))])), (4, (.v (.int .i64 u1i), []))], [], []⟩ _ (by kernel_rfl) (.cons (at_obl (c := GTerm.c) (GTerm.c_eq u8t) GTerm.c_len h34) (.cons (len_ok 4 (GTerm.q u8t)) (.cons (ih_plaws_toTerm h35) (.cons (ix_obl (c := GTerm.c) GTerm.c_len h36) (.cons (mod_obl (off := 0) (new := (GTerm.q u5n)) (c := GTerm.c) (GTerm.c_eq uc2) (GTerm.c_eq u5n) (at'_spec h36).2 rfl) (.cons (st_obl (sz := 4) (off := 0) (s := 4) (c := GTerm.c) (GTerm.c_eq uc2) (at'_spec h36).2 rfl (Nat.le_of_ble_eq_true rfl)) .nil)))))) ?_
            refine Wc.region [] [] [0, 3, 4] [] [] ⟨[(0, (.v (.sl (List.map GTerm.c vw)), [])), (3, (.v (.slx), [(0, .ex 42 false (List.map GTerm.c (u33.set ((u1i).toNat) u5n)))])), (4, (.v (.int .i64 (wr.i64 (u1i + 1))), []))], [], []⟩ _ (by kernel_rfl) .nil ?_
            exact ⟨_, Nat.lt_succ_self _, _, _, rfl, h32⟩
          · refine Wc.condF h33 (by kernel_rfl) ?_
            refine Wc.fix (st' := ⟨[(3, (.v (.slx), [(0, .ex 42 false (List.map GTerm.c u33))]))], [], []⟩) [] [3] [] [] (by kernel_rfl) ?_
            refine Wc.exit ?_
            obtain rfl := Option.some.inj h32
            exact ⟨_, rfl, rfl⟩
      · rintro st ⟨u68, rfl, rfl⟩
        apply Wc.seq
        refine Wc.region [{ tk := [3] }, { tk := [22] }] [] [2] [] [] ⟨[(2, (.v (.slx), [(0, .ex 42 false (List.map GTerm.c u68))]))], [], []⟩ _ (by kernel_rfl) .nil ?_
        refine Wc.fix (st' := ⟨[(2, (.v (.sl (List.map GTerm.c u68)), []))], [], []⟩) [.sh (.t 2 0)] [2] [] [] (by kernel_rfl) ?_
        refine Wc.ret ?_
        obtain rfl := Option.some.inj h
        exact ⟨.inl rfl, by kernel_rfl, by kernel_rfl⟩
theorem claws_toTerm {k : Nat} {ze : GTerm} {r : GTerm} (h : plaws_toTerm k ze = some r) : FnO Try.prog 36 [.v (.agg (GTerm.q ze)) []] (.v (.agg (GTerm.q r)) []) [] := (all_plaws_toTerm k).1 h
theorem claws_toTermS {k : Nat} {vw : List GTerm} {r : (List GTerm)} (h : plaws_toTermS k vw = some r) : FnO Try.prog 90 [.v (.sl (List.map GTerm.c vw)) []] (.v (.sl (List.map GTerm.c r)) []) [] := (all_plaws_toTerm k).2 h

def plaws_toClause (k : Nat) (u3l : GClause) : Option GClause :=
  (plaws_toTerm k u3l.gHead).bind fun u14 =>
  (plaws_toTerm k u3l.gBody).bind fun u25 =>
  some (GClause.mk u14 u25 u3l.gFile)
theorem claws_toClause {k : Nat} {u3l : GClause} {r : GClause} (h : plaws_toClause k u3l = some r) : FnO Try.prog 27 [.v (.agg (GClause.q u3l)) []] (.v (.agg (GClause.q r)) []) [] := by
  refine FnO.of Try.func27 (rfl : Try.f27.body = some _) (Nat.le_of_ble_eq_true (by kernel_rfl)) (Nat.le_of_ble_eq_true (by kernel_rfl)) ?_
  intro w0 X0 Fin pv0 pb
  unfold plaws_toClause at h
  apply Wc.seq
  refine Wc.region [] [] [1, 2] [1, 2] [] ⟨[(1, (.ptr 1 0, [])), (2, (.ptr 2 0, []))], [(1, .cells (GClause.q u3l) []), (2, .cells [.int .i64 0, .str (bs []), .int .i64 0, .sl (List.map GTerm.c []), .int .i64 0, .str (bs []), .int .i64 0, .sl (List.map GTerm.c []), .str (bs [])] [(3, .app 42), (7, .app 42)])], []⟩ _ (by kernel_rfl) .nil ?_
  apply Wc.seq
  refine Wc.region [] [] [1, 2, 3] [1, 2, 3] [] ⟨[(1, (.ptr 1 0, [])), (2, (.ptr 2 0, [])), (3, (.ptr 3 0, []))], [(1, .cells (GClause.q u3l) []), (2, .cells [.int .i64 0, .str (bs []), .int .i64 0, .sl (List.map GTerm.c []), .int .i64 0, .str (bs []), .int .i64 0, .sl (List.map GTerm.c []), .str (bs [])] [(3, .app 42), (7, .app 42)]), (3, .cells [.int .i64 0, .str (bs []), .int .i64 0, .sl (List.map GTerm.c []), .int .i64 0, .str (bs []), .int .i64 0, .sl (List.map GTerm.c []), .str (bs [])] [(3, .app 42), (7, .app 42)])], []⟩ _ (by kernel_rfl) .nil ?_
  apply Wc.seq
  obtain ⟨u14, h37, h⟩ := obind h
  refine Wc.region [{}, {}, { r := some (.v (.agg (GTerm.q u14)) []) }] [] [1, 2, 3] [1, 2, 3] [] ⟨[(1, (.ptr 1 0, [])), (2, (.ptr 2 0, [])), (3, (.ptr 3 0, []))], [(1, .cells (GClause.q u3l) []), (2, .cells [.int .i64 0, .str (bs []), .int .i64 0, .sl (List.map GTerm.c []), .int .i64 0, .str (bs []), .int .i64 0, .sl (List.map GTerm.c []), .str (bs [])] [(3, .app 42), (7, .app 42)]), (3, .cells [.int .i64 u14.gKind, .str u14.gName, .int .i64 u14.gNum, .sl (List.map GTerm.c u14.gKids), .int .i64 0, .str (bs []), .int .i64 0, .sl (List.map GTerm.c []), .str (bs [])] [(7, .app 42)])], []⟩ _ (by kernel_rfl) (.cons (claws_toTerm h37) .nil) ?_
  apply Wc.seq
  obtain ⟨u25, h38, h⟩ := obind h
  refine Wc.region [{}, {}, { r := some (.v (.agg (GTerm.q u25)) []) }] [] [1, 2, 3] [1, 2, 3] [] ⟨[(1, (.ptr 1 0, [])), (2, (.ptr 2 0, [])), (3, (.ptr 3 0, []))], [(1, .cells (GClause.q u3l) []), (2, .cells [.int .i64 0, .str (bs []), .int .i64 0, .sl (List.map GTerm.c []), .int .i64 0, .str (bs []), .int .i64 0, .sl (List.map GTerm.c []), .str (bs [])] [(3, .app 42), (7, .app 42)]), (3, .cells [.int .i64 u14.gKind, .str u14.gName, .int .i64 u14.gNum, .sl (List.map GTerm.c u14.gKids), .int .i64 u25.gKind, .str u25.gName, .int .i64 u25.gNum, .sl (List.map GTerm.c u25.gKids), .str (bs [])] [])], []⟩ _ (by kernel_rfl) (.cons (claws_toTerm h38) .nil) ?_
  apply Wc.seq
  refine Wc.region [] [] [2, 3] [2, 3] [] ⟨[(2, (.ptr 2 0, [])), (3, (.ptr 3 0, []))], [(2, .cells [.int .i64 0, .str (bs []), .int .i64 0, .sl (List.map GTerm.c []), .int .i64 0, .str (bs []), .int .i64 0, .sl (List.map GTerm.c []), .str (bs [])] [(3, .app 42), (7, .app 42)]), (3, .cells [.int .i64 u14.gKind, .str u14.gName, .int .i64 u14.gNum, .sl (List.map GTerm.c u14.gKids), .int .i64 u25.gKind, .str u25.gName, .int .i64 u25.gNum, .sl (List.map GTerm.c u25.gKids), .str u3l.gFile] [])], []⟩ _ (by kernel_rfl) .nil ?_
  apply Wc.seq
  refine Wc.region [] [] [2] [2] [] ⟨[(2, (.ptr 2 0, []))], [(2, .cells [.int .i64 u14.gKind, .str u14.gName, .int .i64 u14.gNum, .sl (List.map GTerm.c u14.gKids), .int .i64 u25.gKind, .str u25.gName, .int .i64 u25.gNum, .sl (List.map GTerm.c u25.gKids), .str u3l.gFile] [])], []⟩ _ (by kernel_rfl) .nil ?_
  refine Wc.ret ?_
  obtain rfl := Option.some.inj h
  exact ⟨.inl rfl, by kernel_rfl, by kernel_rfl⟩

def plaws_toClauseS_L1 (k : Nat) (zf : List GClause) : Nat → (List GClause) → Int → Option (Out (List GClause) (List GClause))
  | 0, _, _ => none
  | m + 1, u34, u1j =>
    if (decide (u1j < (zf.length : Int))) = true then
      (at' zf u1j).bind fun u8v =>
      (plaws_toClause k u8v).bind fun u5o =>
      (at' u34 u1j).bind fun uc3 =>
      plaws_toClauseS_L1 k zf m (u34.set ((u1j).toNat) u5o) (wr.i64 (u1j + 1))
    else
      some (.done u34)
def plaws_toClauseS (k : Nat) (zf : List GClause) : Option (List GClause) :=
  if 0 ≤ (zf.length : Int) ∧ (zf.length : Int) ≤ 1073741824 then
    (plaws_toClauseS_L1 k zf k (List.replicate ((zf.length : Int)).toNat (GClause.mk (GTerm.mk 0 (bs []) 0 []) (GTerm.mk 0 (bs []) 0 []) (bs []))) 0).bind fun out1 => match out1 with
    | .ret r => some r
    | .done u69 =>
      some u69
  else none
theorem claws_toClauseS {k : Nat} {zf : List GClause} {r : (List GClause)} (h : plaws_toClauseS k zf = some r) : FnO Try.prog 52 [.v (.sl (List.map GClause.c zf)) []] (.v (.sl (List.map GClause.c r)) []) [] := by
  refine FnO.of Try.func52 (rfl : Try.f52.body = some _) (Nat.le_of_ble_eq_true (by kernel_rfl)) (Nat.le_of_ble_eq_true (by kernel_rfl)) ?_
  intro w0 X0 Fin pv0 pb
  unfold plaws_toClauseS at h
  apply Wc.seq
  refine Wc.region [] [] [0] [] [] ⟨[(0, (.v (.sl (List.map GClause.c zf)), []))], [], []⟩ _ (by kernel_rfl) .nil ?_
  apply Wc.seq
  obtain ⟨h39, h⟩ := oguard h
  refine Wc.region [{}, { v := some (.int .i64 (zf.length : Int)) }, { c := some (List.map GClause.c (List.replicate ((zf.length : Int)).toNat (GClause.mk (GTerm.mk 0 (bs []) 0 []) (GTerm.mk 0 (bs []) 0 []) (bs [])))) }, { tk := [7], fx := [.ag (.t 7 0)] }] [] [0, 3] [] [] ⟨[(0, (.v (.sl (List.map GClause.c zf)), [])), (3, (.v (.slx), [(0, .ex 66 false (List.map GClause.c (List.replicate ((zf.length : Int)).toNat (GClause.mk (GTerm.mk 0 (bs []) 0 []) (GTerm.mk 0 (bs []) 0 []) (bs [])))))]))], [], []⟩ _ (by kernel_rfl) (.cons (len_obl GClause.c zf) (.cons (rep_re (c := GClause.c) (z := (GClause.mk (GTerm.mk 0 (bs []) 0 []) (GTerm.mk 0 (bs []) 0 []) (bs []))) (GClause.c_eq (GClause.mk (GTerm.mk 0 (bs []) 0 []) (GTerm.mk 0 (bs []) 0 []) (bs []))) ((zf.length : Int)).toNat) (.cons (ms_obl h39) .nil))) ?_
  apply Wc.seq
  apply Wc.seq
  refine Wc.region [] [] [0, 3, 4] [] [] ⟨[(0, (.v (.sl (List.map GClause.c zf)), [])), (3, (.v (.slx), [(0, .ex 66 false (List.map GClause.c (List.replicate ((zf.length : Int)).toNat (GClause.mk (GTerm.mk 0 (bs []) 0 []) (GTerm.mk 0 (bs []) 0 []) (bs [])))))])), (4, (.v (.int .i64 0), []))], [], []⟩ _ (by kernel_rfl) .nil ?_
  obtain ⟨out1, h40, h⟩ := obind h
  refine Wc.lastJ (fun st => ∃ (u69 : List GClause), out1 = .done u69 ∧ st = ⟨[(3, (.v (.slx), [(0, .ex 66 false (List.map GClause.c u69))]))], [], []⟩) ?_ ?_
  · refine Wc.block ?_
    refine Wc.loop (fun m st => ∃ (u34 : List GClause) (u1j : Int), st = ⟨[(0, (.v (.sl (List.map GClause.c zf)), [])), (3, (.v (.slx), [(0, .ex 66 false (List.map GClause.c u34))])), (4, (.v (.int .i64 u1j), []))], [], []⟩ ∧ plaws_toClauseS_L1 k zf m u34 u1j = some out1) ?_ k ⟨_, _, rfl, h40⟩
    rintro m st ⟨u34, u1j, rfl, h40⟩
    cases m with
    | zero => exact (onone h40).elim
    | succ m =>
      apply Wc.seq
      apply Wc.seq
      refine Wc.region [{}, {}, { v := some (.int .i64 (zf.length : Int)) }] [] [0, 3, 4, 11] [] [] ⟨[(0, (.v (.sl (List.map GClause.c zf)), [])), (3, (.v (.slx), [(0, .ex 66 false (List.map GClause.c u34))])), (4, (.v (.int .i64 u1j), [])), (11, (.v (.bool (decide (u1j < (zf.length : Int)))), []))], [], []⟩ _ (by kernel_rfl) (.cons (len_obl GClause.c zf) .nil) ?_
      rcases oif h40 with ⟨h41, h40⟩ | ⟨h41, h40⟩
      · refine Wc.condT h41 (by kernel_rfl) ?_
        refine Wc.fix (st' := ⟨[(0, (.v (.sl (List.map GClause.c zf)), [])), (3, (.v (.slx), [(0, .ex 66 false (List.map GClause.c u34))])), (4, (.v (.int .i64 u1j), []))], [], []⟩) [] [0, 3, 4] [] [] (by kernel_rfl) ?_
        refine Wc.skip ?_
        apply Wc.seq
        refine Wc.block ?_
        obtain ⟨u8v, h42, h40⟩ := obind h40
        obtain ⟨u5o, h43, h40⟩ := obind h40
        obtain ⟨uc3, h44, h40⟩ := obind h40
        refine Wc.region [{}, {}, {}, {}, { v := some (.vptr (GClause.q u8v)) }, {}, { r := some (.v (.agg (GClause.q u5o)) []) }, {}, { c := some (List.map GClause.c (u34.set ((u1j).toNat) u5o)) }] [] [0, 3, 4] [] [] ⟨[(0, (.v (.sl (List.map GClause.c zf)), [])), (3, (.v (.slx), [(0, .ex 66 false (List.map GClause.c (u34.set ((u1j).toNat) u5o)))])), (4, (.v (.int .i64 u1j), []))], [], []⟩ _ (by kernel_rfl) (.cons (at_obl (c := GClause.c) (GClause.c_eq u8v) GClause.c_len h42) (.cons (len_ok 9 (GClause.q u8v)) (.cons (claws_toClause h43) (.cons (ix_obl (c := GClause.c) GClause.c_len h44) (.cons (mod_obl (off := 0) (new := (GClause.q u5o)) (c := GClause.c) (GClause.c_eq uc3) (GClause.c_eq u5o) (at'_spec h44).2 rfl) (.cons (st_obl (sz := 9) (off := 0) (s := 9) (c := GClause.c) (GClause.c_eq uc3) (at'_spec h44).2 rfl (Nat.le_of_ble_eq_true rfl)) .nil)))))) ?_
        refine Wc.region [] [] [0, 3, 4] [] [] ⟨[(0, (.v (.sl (List.map GClause.c zf)), [])), (3, (.v (.slx), [(0, .ex 66 false (List.map GClause.c (u34.set ((u1j).toNat) u5o)))])), (4, (.v (.int .i64 (wr.i64 (u1j + 1))), []))], [], []⟩ _ (by kernel_rfl) .nil ?_
        exact ⟨_, Nat.lt_succ_self _, _, _, rfl, h40⟩
      · refine Wc.condF h41 (by kernel_rfl) ?_
        refine Wc.fix (st' := ⟨[(3, (.v (.slx), [(0, .ex 66 false (List.map GClause.c u34))]))], [], []⟩) [] [3] [] [] (by kernel_rfl) ?_
        refine Wc.exit ?_
        obtain rfl := Option.some.inj h40
        exact ⟨_, rfl, rfl⟩
  · rintro st ⟨u69, rfl, rfl⟩
    apply Wc.seq
    refine Wc.region [{ tk := [3] }, { tk := [22] }] [] [2] [] [] ⟨[(2, (.v (.slx), [(0, .ex 66 false (List.map GClause.c u69))]))], [], []⟩ _ (by kernel_rfl) .nil ?_
    refine Wc.fix (st' := ⟨[(2, (.v (.sl (List.map GClause.c u69)), []))], [], []⟩) [.sh (.t 2 0)] [2] [] [] (by kernel_rfl) ?_
    refine Wc.ret ?_
    obtain rfl := Option.some.inj h
    exact ⟨.inl rfl, by kernel_rfl, by kernel_rfl⟩

def plaws_toStringS_L1 (k : Nat) (zg : List ByteArray) : Nat → (List ByteArray) → Int → Option (Out (List ByteArray) (List ByteArray))
  | 0, _, _ => none
  | m + 1, u35, u1k =>
    if (decide (u1k < (zg.length : Int))) = true then
      (at' zg u1k).bind fun u5p =>
      (at' u35 u1k).bind fun uc8 =>
      plaws_toStringS_L1 k zg m (u35.set ((u1k).toNat) u5p) (wr.i64 (u1k + 1))
    else
      some (.done u35)
def plaws_toStringS (k : Nat) (zg : List ByteArray) : Option (List ByteArray) :=
  if 0 ≤ (zg.length : Int) ∧ (zg.length : Int) ≤ 1073741824 then
    (plaws_toStringS_L1 k zg k (List.replicate ((zg.length : Int)).toNat (bs [])) 0).bind fun out1 => match out1 with
    | .ret r => some r
    | .done u6a =>
      some u6a
  else none
theorem claws_toStringS {k : Nat} {zg : List ByteArray} {r : (List ByteArray)} (h : plaws_toStringS k zg = some r) : FnO Try.prog 53 [.v (.sl (List.map cS zg)) []] (.v (.sl (List.map cS r)) []) [] := by
  refine FnO.of Try.func53 (rfl : Try.f53.body = some _) (Nat.le_of_ble_eq_true (by kernel_rfl)) (Nat.le_of_ble_eq_true (by kernel_rfl)) ?_
  intro w0 X0 Fin pv0 pb
  unfold plaws_toStringS at h
  apply Wc.seq
  refine Wc.region [] [] [0] [] [] ⟨[(0, (.v (.sl (List.map cS zg)), []))], [], []⟩ _ (by kernel_rfl) .nil ?_
  apply Wc.seq
  obtain ⟨h45, h⟩ := oguard h
  refine Wc.region [{}, { v := some (.int .i64 (zg.length : Int)) }, { c := some (List.map cS (List.replicate ((zg.length : Int)).toNat (bs []))) }, { tk := [7] }] [] [0, 3] [] [] ⟨[(0, (.v (.sl (List.map cS zg)), [])), (3, (.v (.slx), [(0, .ex 9 true (List.map cS (List.replicate ((zg.length : Int)).toNat (bs []))))]))], [], []⟩ _ (by kernel_rfl) (.cons (len_obl cS zg) (.cons (rep_re (c := cS) (z := (bs [])) rfl ((zg.length : Int)).toNat) (.cons (ms_obl h45) .nil))) ?_
  apply Wc.seq
  apply Wc.seq
  refine Wc.region [] [] [0, 3, 4] [] [] ⟨[(0, (.v (.sl (List.map cS zg)), [])), (3, (.v (.slx), [(0, .ex 9 true (List.map cS (List.replicate ((zg.length : Int)).toNat (bs []))))])), (4, (.v (.int .i64 0), []))], [], []⟩ _ (by kernel_rfl) .nil ?_
  obtain ⟨out1, h46, h⟩ := obind h
  refine Wc.lastJ (fun st => ∃ (u6a : List ByteArray), out1 = .done u6a ∧ st = ⟨[(3, (.v (.slx), [(0, .ex 9 true (List.map cS u6a))]))], [], []⟩) ?_ ?_
  · refine Wc.block ?_
    refine Wc.loop (fun m st => ∃ (u35 : List ByteArray) (u1k : Int), st = ⟨[(0, (.v (.sl (List.map cS zg)), [])), (3, (.v (.slx), [(0, .ex 9 true (List.map cS u35))])), (4, (.v (.int .i64 u1k), []))], [], []⟩ ∧ plaws_toStringS_L1 k zg m u35 u1k = some out1) ?_ k ⟨_, _, rfl, h46⟩
    rintro m st ⟨u35, u1k, rfl, h46⟩
    cases m with
    | zero => exact (onone h46).elim
    | succ m =>
      apply Wc.seq
      apply Wc.seq
      refine Wc.region [{}, {}, { v := some (.int .i64 (zg.length : Int)) }] [] [0, 3, 4, 11] [] [] ⟨[(0, (.v (.sl (List.map cS zg)), [])), (3, (.v (.slx), [(0, .ex 9 true (List.map cS u35))])), (4, (.v (.int .i64 u1k), [])), (11, (.v (.bool (decide (u1k < (zg.length : Int)))), []))], [], []⟩ _ (by kernel_rfl) (.cons (len_obl cS zg) .nil) ?_
      rcases oif h46 with ⟨h47, h46⟩ | ⟨h47, h46⟩
      · refine Wc.condT h47 (by kernel_rfl) ?_
        refine Wc.fix (st' := ⟨[(0, (.v (.sl (List.map cS zg)), [])), (3, (.v (.slx), [(0, .ex 9 true (List.map cS u35))])), (4, (.v (.int .i64 u1k), []))], [], []⟩) [] [0, 3, 4] [] [] (by kernel_rfl) ?_
        refine Wc.skip ?_
        apply Wc.seq
        refine Wc.block ?_
        obtain ⟨u5p, h48, h46⟩ := obind h46
        obtain ⟨uc8, h49, h46⟩ := obind h46
        refine Wc.region [{}, {}, {}, {}, { v := some (.vptr [.str u5p]) }, {}, {}, { c := some (List.map cS (u35.set ((u1k).toNat) u5p)) }] [] [0, 3, 4] [] [] ⟨[(0, (.v (.sl (List.map cS zg)), [])), (3, (.v (.slx), [(0, .ex 9 true (List.map cS (u35.set ((u1k).toNat) u5p)))])), (4, (.v (.int .i64 u1k), []))], [], []⟩ _ (by kernel_rfl) (.cons (at_obl (c := cS) rfl cS_len h48) (.cons (len_ok 1 [.str u5p]) (.cons (ix_obl (c := cS) cS_len h49) (.cons (mod_obl (off := 0) (new := [.str u5p]) (c := cS) rfl rfl (at'_spec h49).2 rfl) (.cons (st_obl (sz := 1) (off := 0) (s := 1) (c := cS) rfl (at'_spec h49).2 rfl (Nat.le_of_ble_eq_true rfl)) .nil))))) ?_
        refine Wc.region [] [] [0, 3, 4] [] [] ⟨[(0, (.v (.sl (List.map cS zg)), [])), (3, (.v (.slx), [(0, .ex 9 true (List.map cS (u35.set ((u1k).toNat) u5p)))])), (4, (.v (.int .i64 (wr.i64 (u1k + 1))), []))], [], []⟩ _ (by kernel_rfl) .nil ?_
        exact ⟨_, Nat.lt_succ_self _, _, _, rfl, h46⟩
      · refine Wc.condF h47 (by kernel_rfl) ?_
        refine Wc.fix (st' := ⟨[(3, (.v (.slx), [(0, .ex 9 true (List.map cS u35))]))], [], []⟩) [] [3] [] [] (by kernel_rfl) ?_
        refine Wc.exit ?_
        obtain rfl := Option.some.inj h46
        exact ⟨_, rfl, rfl⟩
  · rintro st ⟨u6a, rfl, rfl⟩
    apply Wc.seq
    refine Wc.region [{ tk := [3] }, { tk := [21] }] [] [2] [] [] ⟨[(2, (.v (.slx), [(0, .ex 9 true (List.map cS u6a))]))], [], []⟩ _ (by kernel_rfl) .nil ?_
    refine Wc.fix (st' := ⟨[(2, (.v (.sl (List.map cS u6a)), []))], [], []⟩) [.sh (.t 2 0)] [2] [] [] (by kernel_rfl) ?_
    refine Wc.ret ?_
    obtain rfl := Option.some.inj h
    exact ⟨.inl rfl, by kernel_rfl, by kernel_rfl⟩

def plaws_toDb (k : Nat) (u5q : GDb) : Option GDb :=
  (plaws_toClauseS k u5q.gClauses).bind fun u6o =>
  (plaws_toStringS k u5q.gOpen).bind fun u8w =>
  some (GDb.mk u6o u8w)
theorem claws_toDb {k : Nat} {u5q : GDb} {r : GDb} (h : plaws_toDb k u5q = some r) : FnO Try.prog 11 [.v (.agg (GDb.q u5q)) []] (.v (.agg (GDb.q r)) []) [] := by
  refine FnO.of Try.func11 (rfl : Try.f11.body = some _) (Nat.le_of_ble_eq_true (by kernel_rfl)) (Nat.le_of_ble_eq_true (by kernel_rfl)) ?_
  intro w0 X0 Fin pv0 pb
  unfold plaws_toDb at h
  apply Wc.seq
  refine Wc.region [] [] [1, 2] [1, 2] [] ⟨[(1, (.ptr 1 0, [])), (2, (.ptr 2 0, []))], [(1, .cells (GDb.q u5q) []), (2, .cells [.sl (List.map GClause.c []), .sl (List.map cS [])] [(0, .app 66), (1, .app 9)])], []⟩ _ (by kernel_rfl) .nil ?_
  apply Wc.seq
  refine Wc.region [] [] [1, 2, 3] [1, 2, 3] [] ⟨[(1, (.ptr 1 0, [])), (2, (.ptr 2 0, [])), (3, (.ptr 3 0, []))], [(1, .cells (GDb.q u5q) []), (2, .cells [.sl (List.map GClause.c []), .sl (List.map cS [])] [(0, .app 66), (1, .app 9)]), (3, .cells [.sl (List.map GClause.c []), .sl (List.map cS [])] [(0, .app 66), (1, .app 9)])], []⟩ _ (by kernel_rfl) .nil ?_
  apply Wc.seq
  obtain ⟨u6o, h50, h⟩ := obind h
  refine Wc.region [{}, {}, { r := some (.v (.sl (List.map GClause.c u6o)) []) }] [] [1, 2, 3] [1, 2, 3] [] ⟨[(1, (.ptr 1 0, [])), (2, (.ptr 2 0, [])), (3, (.ptr 3 0, []))], [(1, .cells (GDb.q u5q) []), (2, .cells [.sl (List.map GClause.c []), .sl (List.map cS [])] [(0, .app 66), (1, .app 9)]), (3, .cells [.sl (List.map GClause.c u6o), .sl (List.map cS [])] [(1, .app 9)])], []⟩ _ (by kernel_rfl) (.cons (claws_toClauseS h50) .nil) ?_
  apply Wc.seq
  obtain ⟨u8w, h51, h⟩ := obind h
  refine Wc.region [{}, {}, { r := some (.v (.sl (List.map cS u8w)) []) }] [] [2, 3] [2, 3] [] ⟨[(2, (.ptr 2 0, [])), (3, (.ptr 3 0, []))], [(2, .cells [.sl (List.map GClause.c []), .sl (List.map cS [])] [(0, .app 66), (1, .app 9)]), (3, .cells [.sl (List.map GClause.c u6o), .sl (List.map cS u8w)] [])], []⟩ _ (by kernel_rfl) (.cons (claws_toStringS h51) .nil) ?_
  apply Wc.seq
  refine Wc.region [] [] [2] [2] [] ⟨[(2, (.ptr 2 0, []))], [(2, .cells [.sl (List.map GClause.c u6o), .sl (List.map cS u8w)] [])], []⟩ _ (by kernel_rfl) .nil ?_
  refine Wc.ret ?_
  obtain rfl := Option.some.inj h
  exact ⟨.inl rfl, by kernel_rfl, by kernel_rfl⟩

def plaws_eqTermS_L1 (k : Nat) (rlaws_eqTerm : GTerm → GTerm → Option Bool) (rlaws_eqTermS : (List GTerm) → (List GTerm) → Option Bool) (z8 : List GTerm) (zp : List GTerm) : Nat → Int → Option (Out Bool Unit)
  | 0, _ => none
  | m + 1, u2m =>
    if (decide (u2m < (z8.length : Int))) = true then
      (at' z8 u2m).bind fun u8x =>
      (at' zp u2m).bind fun u8y =>
      (rlaws_eqTerm u8x u8y).bind fun uad =>
      if (!uad) = true then
        some (.ret false)
      else
        plaws_eqTermS_L1 k rlaws_eqTerm rlaws_eqTermS z8 zp m (wr.i64 (u2m + 1))
    else
      some (.done ())
mutual
def plaws_eqTerm : Nat → GTerm → GTerm → Option Bool
  | 0, _, _ => none
  | k + 1, u0e, u0f =>
    if (u0e.gKind != u0f.gKind) = true then
      some false
    else
      if (!(sEq u0e.gName u0f.gName)) = true then
        some false
      else
        if (u0e.gNum != u0f.gNum) = true then
          some false
        else
          (plaws_eqTermS k u0e.gKids u0f.gKids).bind fun uae =>
          if (!uae) = true then
            some false
          else
            some true
def plaws_eqTermS : Nat → (List GTerm) → (List GTerm) → Option Bool
  | 0, _, _ => none
  | k + 1, z8, zp =>
    if ((z8.length : Int) != (zp.length : Int)) = true then
      some false
    else
      (plaws_eqTermS_L1 k (plaws_eqTerm k) (plaws_eqTermS k) z8 zp k 0).bind fun out1 => match out1 with
      | .ret r => some r
      | .done () =>
        some true
end
set_option maxHeartbeats 4000000 in
theorem all_plaws_eqTerm : ∀ k : Nat, (∀ {u0e : GTerm} {u0f : GTerm} {r : Bool}, plaws_eqTerm k u0e u0f = some r → FnO Try.prog 20 [.v (.agg (GTerm.q u0e)) [], .v (.agg (GTerm.q u0f)) []] (.v (.bool r) []) []) ∧
    (∀ {z8 : List GTerm} {zp : List GTerm} {r : Bool}, plaws_eqTermS k z8 zp = some r → FnO Try.prog 71 [.v (.sl (List.map GTerm.c z8)) [], .v (.sl (List.map GTerm.c zp)) []] (.v (.bool r) []) []) := by
  intro k
  induction k with
  | zero =>
    refine ⟨?_, ?_⟩
    · intro u0e u0f r h
      exact (onone (by rw [plaws_eqTerm] at h; exact h)).elim
    · intro z8 zp r h
      exact (onone (by rw [plaws_eqTermS] at h; exact h)).elim
  | succ k ih =>
    obtain ⟨ih_plaws_eqTerm, ih_plaws_eqTermS⟩ := ih
    refine ⟨?_, ?_⟩
    · intro u0e u0f r h
      rw [plaws_eqTerm] at h
      refine FnO.of Try.func20 (rfl : Try.f20.body = some _) (Nat.le_of_ble_eq_true (by kernel_rfl)) (Nat.le_of_ble_eq_true (by kernel_rfl)) ?_
      intro w0 X0 Fin pv0 pb
      apply Wc.seq
      refine Wc.region [] [] [2, 3] [2, 3] [] ⟨[(2, (.ptr 2 0, [])), (3, (.ptr 3 0, []))], [(2, .cells (GTerm.q u0e) []), (3, .cells (GTerm.q u0f) [])], []⟩ _ (by kernel_rfl) .nil ?_
      apply Wc.seq
      apply Wc.seq
      refine Wc.region [] [] [2, 3, 9] [2, 3] [] ⟨[(2, (.ptr 2 0, [])), (3, (.ptr 3 0, [])), (9, (.v (.bool (u0e.gKind != u0f.gKind)), []))], [(2, .cells (GTerm.q u0e) []), (3, .cells (GTerm.q u0f) [])], []⟩ _ (by kernel_rfl) .nil ?_
      rcases oif h with ⟨h52, h⟩ | ⟨h52, h⟩
      · refine Wc.condT h52 (by kernel_rfl) ?_
        apply Wc.seq
        refine Wc.region [] [] [4] [] [] ⟨[(4, (.v (.bool false), []))], [], []⟩ _ (by kernel_rfl) .nil ?_
        refine Wc.ret ?_
        obtain rfl := Option.some.inj h
        exact ⟨.inl rfl, by kernel_rfl, by kernel_rfl⟩
      · refine Wc.condF h52 (by kernel_rfl) ?_
        refine Wc.fix (st' := ⟨[(2, (.ptr 2 0, [])), (3, (.ptr 3 0, []))], [(2, .cells (GTerm.q u0e) []), (3, .cells (GTerm.q u0f) [])], []⟩) [] [2, 3] [2, 3] [] (by kernel_rfl) ?_
        refine Wc.skip ?_
        apply Wc.seq
        apply Wc.seq
        refine Wc.region [] [] [2, 3, 14] [2, 3] [] ⟨[(2, (.ptr 2 0, [])), (3, (.ptr 3 0, [])), (14, (.v (.bool (!(sEq u0e.gName u0f.gName))), []))], [(2, .cells (GTerm.q u0e) []), (3, .cells (GTerm.q u0f) [])], []⟩ _ (by kernel_rfl) .nil ?_
        rcases oif h with ⟨h53, h⟩ | ⟨h53, h⟩
        · refine Wc.condT h53 (by kernel_rfl) ?_
          apply Wc.seq
          refine Wc.region [] [] [4] [] [] ⟨[(4, (.v (.bool false), []))], [], []⟩ _ (by kernel_rfl) .nil ?_
          refine Wc.ret ?_
          obtain rfl := Option.some.inj h
          exact ⟨.inl rfl, by kernel_rfl, by kernel_rfl⟩
        · refine Wc.condF h53 (by kernel_rfl) ?_
          refine Wc.fix (st' := ⟨[(2, (.ptr 2 0, [])), (3, (.ptr 3 0, []))], [(2, .cells (GTerm.q u0e) []), (3, .cells (GTerm.q u0f) [])], []⟩) [] [2, 3] [2, 3] [] (by kernel_rfl) ?_
          refine Wc.skip ?_
          apply Wc.seq
          apply Wc.seq
          refine Wc.region [] [] [2, 3, 19] [2, 3] [] ⟨[(2, (.ptr 2 0, [])), (3, (.ptr 3 0, [])), (19, (.v (.bool (u0e.gNum != u0f.gNum)), []))], [(2, .cells (GTerm.q u0e) []), (3, .cells (GTerm.q u0f) [])], []⟩ _ (by kernel_rfl) .nil ?_
          rcases oif h with ⟨h54, h⟩ | ⟨h54, h⟩
          · refine Wc.condT h54 (by kernel_rfl) ?_
            apply Wc.seq
            refine Wc.region [] [] [4] [] [] ⟨[(4, (.v (.bool false), []))], [], []⟩ _ (by kernel_rfl) .nil ?_
            refine Wc.ret ?_
            obtain rfl := Option.some.inj h
            exact ⟨.inl rfl, by kernel_rfl, by kernel_rfl⟩
          · refine Wc.condF h54 (by kernel_rfl) ?_
            refine Wc.fix (st' := ⟨[(2, (.ptr 2 0, [])), (3, (.ptr 3 0, []))], [(2, .cells (GTerm.q u0e) []), (3, .cells (GTerm.q u0f) [])], []⟩) [] [2, 3] [2, 3] [] (by kernel_rfl) ?_
            refine Wc.skip ?_
            apply Wc.seq
            apply Wc.seq
            obtain ⟨uae, h55, h⟩ := obind h
            refine Wc.region [{}, {}, {}, {}, { r := some (.v (.bool uae) []) }] [] [25] [] [] ⟨[(25, (.v (.bool (!uae)), []))], [], []⟩ _ (by kernel_rfl) (.cons (ih_plaws_eqTermS h55) .nil) ?_
            rcases oif h with ⟨h56, h⟩ | ⟨h56, h⟩
            · refine Wc.condT h56 (by kernel_rfl) ?_
              apply Wc.seq
              refine Wc.region [] [] [4] [] [] ⟨[(4, (.v (.bool false), []))], [], []⟩ _ (by kernel_rfl) .nil ?_
              refine Wc.ret ?_
              obtain rfl := Option.some.inj h
              exact ⟨.inl rfl, by kernel_rfl, by kernel_rfl⟩
            · refine Wc.condF h56 (by kernel_rfl) ?_
              refine Wc.fix (st' := ⟨[], [], []⟩) [] [] [] [] (by kernel_rfl) ?_
              refine Wc.skip ?_
              apply Wc.seq
              refine Wc.region [] [] [4] [] [] ⟨[(4, (.v (.bool true), []))], [], []⟩ _ (by kernel_rfl) .nil ?_
              refine Wc.ret ?_
              obtain rfl := Option.some.inj h
              exact ⟨.inl rfl, by kernel_rfl, by kernel_rfl⟩
    · intro z8 zp r h
      rw [plaws_eqTermS] at h
      refine FnO.of Try.func71 (rfl : Try.f71.body = some _) (Nat.le_of_ble_eq_true (by kernel_rfl)) (Nat.le_of_ble_eq_true (by kernel_rfl)) ?_
      intro w0 X0 Fin pv0 pb
      apply Wc.seq
      refine Wc.region [] [] [0, 1] [] [] ⟨[(0, (.v (.sl (List.map GTerm.c z8)), [])), (1, (.v (.sl (List.map GTerm.c zp)), []))], [], []⟩ _ (by kernel_rfl) .nil ?_
      apply Wc.seq
      apply Wc.seq
      refine Wc.region [{}, { v := some (.int .i64 (z8.length : Int)) }, {}, { v := some (.int .i64 (zp.length : Int)) }] [] [0, 1, 10] [] [] ⟨[(0, (.v (.sl (List.map GTerm.c z8)), [])), (1, (.v (.sl (List.map GTerm.c zp)), [])), (10, (.v (.bool ((z8.length : Int) != (zp.length : Int))), []))], [], []⟩ _ (by kernel_rfl) (.cons (len_obl GTerm.c z8) (.cons (len_obl GTerm.c zp) .nil)) ?_
      rcases oif h with ⟨h57, h⟩ | ⟨h57, h⟩
      · refine Wc.condT h57 (by kernel_rfl) ?_
        apply Wc.seq
        refine Wc.region [] [] [4] [] [] ⟨[(4, (.v (.bool false), []))], [], []⟩ _ (by kernel_rfl) .nil ?_
        refine Wc.ret ?_
        obtain rfl := Option.some.inj h
        exact ⟨.inl rfl, by kernel_rfl, by kernel_rfl⟩
      · refine Wc.condF h57 (by kernel_rfl) ?_
        refine Wc.fix (st' := ⟨[(0, (.v (.sl (List.map GTerm.c z8)), [])), (1, (.v (.sl (List.map GTerm.c zp)), []))], [], []⟩) [] [0, 1] [] [] (by kernel_rfl) ?_
        refine Wc.skip ?_
        apply Wc.seq
        apply Wc.seq
        refine Wc.region [] [] [0, 1, 5] [] [] ⟨[(0, (.v (.sl (List.map GTerm.c z8)), [])), (1, (.v (.sl (List.map GTerm.c zp)), [])), (5, (.v (.int .i64 0), []))], [], []⟩ _ (by kernel_rfl) .nil ?_
        obtain ⟨out1, h58, h⟩ := obind h
        refine Wc.lastJ (fun st => out1 = .done () ∧ st = ⟨[], [], []⟩) ?_ ?_
        · refine Wc.block ?_
          refine Wc.loop (fun m st => ∃ (u2m : Int), st = ⟨[(0, (.v (.sl (List.map GTerm.c z8)), [])), (1, (.v (.sl (List.map GTerm.c zp)), [])), (5, (.v (.int .i64 u2m), []))], [], []⟩ ∧ plaws_eqTermS_L1 k (plaws_eqTerm k) (plaws_eqTermS k) z8 zp m u2m = some out1) ?_ k ⟨_, rfl, h58⟩
          rintro m st ⟨u2m, rfl, h58⟩
          cases m with
          | zero => exact (onone h58).elim
          | succ m =>
            apply Wc.seq
            apply Wc.seq
            refine Wc.region [{}, {}, { v := some (.int .i64 (z8.length : Int)) }] [] [0, 1, 5, 14] [] [] ⟨[(0, (.v (.sl (List.map GTerm.c z8)), [])), (1, (.v (.sl (List.map GTerm.c zp)), [])), (5, (.v (.int .i64 u2m), [])), (14, (.v (.bool (decide (u2m < (z8.length : Int)))), []))], [], []⟩ _ (by kernel_rfl) (.cons (len_obl GTerm.c z8) .nil) ?_
            rcases oif h58 with ⟨h59, h58⟩ | ⟨h59, h58⟩
            · refine Wc.condT h59 (by kernel_rfl) ?_
              refine Wc.fix (st' := ⟨[(0, (.v (.sl (List.map GTerm.c z8)), [])), (1, (.v (.sl (List.map GTerm.c zp)), [])), (5, (.v (.int .i64 u2m), []))], [], []⟩) [] [0, 1, 5] [] [] (by kernel_rfl) ?_
              refine Wc.skip ?_
              apply Wc.seq
              refine Wc.block ?_
              apply Wc.seq
              obtain ⟨u8x, h60, h58⟩ := obind h58
              obtain ⟨u8y, h61, h58⟩ := obind h58
              obtain ⟨uad, h62, h58⟩ := obind h58
              refine Wc.draw hmix [{}, {}, { v := some (.vptr (GTerm.q u8x)) }, {}, {}, {}, { v := some (.vptr (GTerm.q u8y)) }, {}, { r := some (.v (.bool uad) []) }] [] [0, 1, 5, 26] [] [] ⟨[(0, (.v (.sl (List.map GTerm.c z8)), [])), (1, (.v (.sl (List.map GTerm.c zp)), [])), (5, (.v (.int .i64 u2m), [])), (26, (.v (.bool (!uad)), []))], [], []⟩ _ (by kernel_rfl) (fun X => by kernel_rfl) (.cons (at_obl (c := GTerm.c) (GTerm.c_eq u8x) GTerm.c_len h60) (.cons (len_ok 4 (GTerm.q u8x)) (.cons (at_obl (c := GTerm.c) (GTerm.c_eq u8y) GTerm.c_len h61) (.cons (len_ok 4 (GTerm.q u8y)) (.cons (ih_plaws_eqTerm h62) .nil))))) ?_
              rcases oif h58 with ⟨h63, h58⟩ | ⟨h63, h58⟩
              · refine Wc.condT h63 (by kernel_rfl) ?_
                apply Wc.seq
                refine Wc.region [] [] [4] [] [] ⟨[(4, (.v (.bool false), []))], [], []⟩ _ (by kernel_rfl) .nil ?_
                refine Wc.ret ?_
                obtain rfl := Option.some.inj h58
                obtain rfl := Option.some.inj h
                exact ⟨.inl rfl, by kernel_rfl, by kernel_rfl⟩
              · refine Wc.condF h63 (by kernel_rfl) ?_
                refine Wc.fix (st' := ⟨[(0, (.v (.sl (List.map GTerm.c z8)), [])), (1, (.v (.sl (List.map GTerm.c zp)), [])), (5, (.v (.int .i64 u2m), []))], [], []⟩) [] [0, 1, 5] [] [] (by kernel_rfl) ?_
                refine Wc.skip ?_
                refine Wc.region [] [] [0, 1, 5] [] [] ⟨[(0, (.v (.sl (List.map GTerm.c z8)), [])), (1, (.v (.sl (List.map GTerm.c zp)), [])), (5, (.v (.int .i64 (wr.i64 (u2m + 1))), []))], [], []⟩ _ (by kernel_rfl) .nil ?_
                exact ⟨_, Nat.lt_succ_self _, _, rfl, h58⟩
            · refine Wc.condF h59 (by kernel_rfl) ?_
              refine Wc.fix (st' := ⟨[], [], []⟩) [] [] [] [] (by kernel_rfl) ?_
              refine Wc.exit ?_
              obtain rfl := Option.some.inj h58
              exact ⟨rfl, rfl⟩
        · rintro st ⟨rfl, rfl⟩
          apply Wc.seq
          refine Wc.region [] [] [4] [] [] ⟨[(4, (.v (.bool true), []))], [], []⟩ _ (by kernel_rfl) .nil ?_
          refine Wc.ret ?_
          obtain rfl := Option.some.inj h
          exact ⟨.inl rfl, by kernel_rfl, by kernel_rfl⟩
theorem claws_eqTerm {k : Nat} {u0e : GTerm} {u0f : GTerm} {r : Bool} (h : plaws_eqTerm k u0e u0f = some r) : FnO Try.prog 20 [.v (.agg (GTerm.q u0e)) [], .v (.agg (GTerm.q u0f)) []] (.v (.bool r) []) [] := (all_plaws_eqTerm k).1 h
theorem claws_eqTermS {k : Nat} {z8 : List GTerm} {zp : List GTerm} {r : Bool} (h : plaws_eqTermS k z8 zp = some r) : FnO Try.prog 71 [.v (.sl (List.map GTerm.c z8)) [], .v (.sl (List.map GTerm.c zp)) []] (.v (.bool r) []) [] := (all_plaws_eqTerm k).2 h

def plaws_eqClause (k : Nat) (u3m : GClause) (u3n : GClause) : Option Bool :=
  (plaws_eqTerm k u3m.gHead u3n.gHead).bind fun uaf =>
  if (!uaf) = true then
    some false
  else
    (plaws_eqTerm k u3m.gBody u3n.gBody).bind fun uag =>
    if (!uag) = true then
      some false
    else
      if (!(sEq u3m.gFile u3n.gFile)) = true then
        some false
      else
        some true
theorem claws_eqClause {k : Nat} {u3m : GClause} {u3n : GClause} {r : Bool} (h : plaws_eqClause k u3m u3n = some r) : FnO Try.prog 30 [.v (.agg (GClause.q u3m)) [], .v (.agg (GClause.q u3n)) []] (.v (.bool r) []) [] := by
  refine FnO.of Try.func30 (rfl : Try.f30.body = some _) (Nat.le_of_ble_eq_true (by kernel_rfl)) (Nat.le_of_ble_eq_true (by kernel_rfl)) ?_
  intro w0 X0 Fin pv0 pb
  unfold plaws_eqClause at h
  apply Wc.seq
  refine Wc.region [] [] [2, 3] [2, 3] [] ⟨[(2, (.ptr 2 0, [])), (3, (.ptr 3 0, []))], [(2, .cells (GClause.q u3m) []), (3, .cells (GClause.q u3n) [])], []⟩ _ (by kernel_rfl) .nil ?_
  apply Wc.seq
  apply Wc.seq
  obtain ⟨uaf, h64, h⟩ := obind h
  refine Wc.region [{}, {}, {}, {}, { r := some (.v (.bool uaf) []) }] [] [2, 3, 10] [2, 3] [] ⟨[(2, (.ptr 2 0, [])), (3, (.ptr 3 0, [])), (10, (.v (.bool (!uaf)), []))], [(2, .cells (GClause.q u3m) []), (3, .cells (GClause.q u3n) [])], []⟩ _ (by kernel_rfl) (.cons (claws_eqTerm h64) .nil) ?_
  rcases oif h with ⟨h65, h⟩ | ⟨h65, h⟩
  · refine Wc.condT h65 (by kernel_rfl) ?_
    apply Wc.seq
    refine Wc.region [] [] [4] [] [] ⟨[(4, (.v (.bool false), []))], [], []⟩ _ (by kernel_rfl) .nil ?_
    refine Wc.ret ?_
    obtain rfl := Option.some.inj h
    exact ⟨.inl rfl, by kernel_rfl, by kernel_rfl⟩
  · refine Wc.condF h65 (by kernel_rfl) ?_
    refine Wc.fix (st' := ⟨[(2, (.ptr 2 0, [])), (3, (.ptr 3 0, []))], [(2, .cells (GClause.q u3m) []), (3, .cells (GClause.q u3n) [])], []⟩) [] [2, 3] [2, 3] [] (by kernel_rfl) ?_
    refine Wc.skip ?_
    apply Wc.seq
    apply Wc.seq
    obtain ⟨uag, h66, h⟩ := obind h
    refine Wc.region [{}, {}, {}, {}, { r := some (.v (.bool uag) []) }] [] [2, 3, 16] [2, 3] [] ⟨[(2, (.ptr 2 0, [])), (3, (.ptr 3 0, [])), (16, (.v (.bool (!uag)), []))], [(2, .cells (GClause.q u3m) []), (3, .cells (GClause.q u3n) [])], []⟩ _ (by kernel_rfl) (.cons (claws_eqTerm h66) .nil) ?_
    rcases oif h with ⟨h67, h⟩ | ⟨h67, h⟩
    · refine Wc.condT h67 (by kernel_rfl) ?_
      apply Wc.seq
      refine Wc.region [] [] [4] [] [] ⟨[(4, (.v (.bool false), []))], [], []⟩ _ (by kernel_rfl) .nil ?_
      refine Wc.ret ?_
      obtain rfl := Option.some.inj h
      exact ⟨.inl rfl, by kernel_rfl, by kernel_rfl⟩
    · refine Wc.condF h67 (by kernel_rfl) ?_
      refine Wc.fix (st' := ⟨[(2, (.ptr 2 0, [])), (3, (.ptr 3 0, []))], [(2, .cells (GClause.q u3m) []), (3, .cells (GClause.q u3n) [])], []⟩) [] [2, 3] [2, 3] [] (by kernel_rfl) ?_
      refine Wc.skip ?_
      apply Wc.seq
      apply Wc.seq
      refine Wc.region [] [] [21] [] [] ⟨[(21, (.v (.bool (!(sEq u3m.gFile u3n.gFile))), []))], [], []⟩ _ (by kernel_rfl) .nil ?_
      rcases oif h with ⟨h68, h⟩ | ⟨h68, h⟩
      · refine Wc.condT h68 (by kernel_rfl) ?_
        apply Wc.seq
        refine Wc.region [] [] [4] [] [] ⟨[(4, (.v (.bool false), []))], [], []⟩ _ (by kernel_rfl) .nil ?_
        refine Wc.ret ?_
        obtain rfl := Option.some.inj h
        exact ⟨.inl rfl, by kernel_rfl, by kernel_rfl⟩
      · refine Wc.condF h68 (by kernel_rfl) ?_
        refine Wc.fix (st' := ⟨[], [], []⟩) [] [] [] [] (by kernel_rfl) ?_
        refine Wc.skip ?_
        apply Wc.seq
        refine Wc.region [] [] [4] [] [] ⟨[(4, (.v (.bool true), []))], [], []⟩ _ (by kernel_rfl) .nil ?_
        refine Wc.ret ?_
        obtain rfl := Option.some.inj h
        exact ⟨.inl rfl, by kernel_rfl, by kernel_rfl⟩

def plaws_eqClauseS_L1 (k : Nat) (zt : List GClause) (u0g : List GClause) : Nat → Int → Option (Out Bool Unit)
  | 0, _ => none
  | m + 1, u2n =>
    if (decide (u2n < (zt.length : Int))) = true then
      (at' zt u2n).bind fun u8z =>
      (at' u0g u2n).bind fun u90 =>
      (plaws_eqClause k u8z u90).bind fun uah =>
      if (!uah) = true then
        some (.ret false)
      else
        plaws_eqClauseS_L1 k zt u0g m (wr.i64 (u2n + 1))
    else
      some (.done ())
def plaws_eqClauseS (k : Nat) (zt : List GClause) (u0g : List GClause) : Option Bool :=
  if ((zt.length : Int) != (u0g.length : Int)) = true then
    some false
  else
    (plaws_eqClauseS_L1 k zt u0g k 0).bind fun out1 => match out1 with
    | .ret r => some r
    | .done () =>
      some true
theorem claws_eqClauseS {k : Nat} {zt : List GClause} {u0g : List GClause} {r : Bool} (h : plaws_eqClauseS k zt u0g = some r) : FnO Try.prog 57 [.v (.sl (List.map GClause.c zt)) [], .v (.sl (List.map GClause.c u0g)) []] (.v (.bool r) []) [] := by
  refine FnO.of Try.func57 (rfl : Try.f57.body = some _) (Nat.le_of_ble_eq_true (by kernel_rfl)) (Nat.le_of_ble_eq_true (by kernel_rfl)) ?_
  intro w0 X0 Fin pv0 pb
  unfold plaws_eqClauseS at h
  apply Wc.seq
  refine Wc.region [] [] [0, 1] [] [] ⟨[(0, (.v (.sl (List.map GClause.c zt)), [])), (1, (.v (.sl (List.map GClause.c u0g)), []))], [], []⟩ _ (by kernel_rfl) .nil ?_
  apply Wc.seq
  apply Wc.seq
  refine Wc.region [{}, { v := some (.int .i64 (zt.length : Int)) }, {}, { v := some (.int .i64 (u0g.length : Int)) }] [] [0, 1, 10] [] [] ⟨[(0, (.v (.sl (List.map GClause.c zt)), [])), (1, (.v (.sl (List.map GClause.c u0g)), [])), (10, (.v (.bool ((zt.length : Int) != (u0g.length : Int))), []))], [], []⟩ _ (by kernel_rfl) (.cons (len_obl GClause.c zt) (.cons (len_obl GClause.c u0g) .nil)) ?_
  rcases oif h with ⟨h69, h⟩ | ⟨h69, h⟩
  · refine Wc.condT h69 (by kernel_rfl) ?_
    apply Wc.seq
    refine Wc.region [] [] [4] [] [] ⟨[(4, (.v (.bool false), []))], [], []⟩ _ (by kernel_rfl) .nil ?_
    refine Wc.ret ?_
    obtain rfl := Option.some.inj h
    exact ⟨.inl rfl, by kernel_rfl, by kernel_rfl⟩
  · refine Wc.condF h69 (by kernel_rfl) ?_
    refine Wc.fix (st' := ⟨[(0, (.v (.sl (List.map GClause.c zt)), [])), (1, (.v (.sl (List.map GClause.c u0g)), []))], [], []⟩) [] [0, 1] [] [] (by kernel_rfl) ?_
    refine Wc.skip ?_
    apply Wc.seq
    apply Wc.seq
    refine Wc.region [] [] [0, 1, 5] [] [] ⟨[(0, (.v (.sl (List.map GClause.c zt)), [])), (1, (.v (.sl (List.map GClause.c u0g)), [])), (5, (.v (.int .i64 0), []))], [], []⟩ _ (by kernel_rfl) .nil ?_
    obtain ⟨out1, h70, h⟩ := obind h
    refine Wc.lastJ (fun st => out1 = .done () ∧ st = ⟨[], [], []⟩) ?_ ?_
    · refine Wc.block ?_
      refine Wc.loop (fun m st => ∃ (u2n : Int), st = ⟨[(0, (.v (.sl (List.map GClause.c zt)), [])), (1, (.v (.sl (List.map GClause.c u0g)), [])), (5, (.v (.int .i64 u2n), []))], [], []⟩ ∧ plaws_eqClauseS_L1 k zt u0g m u2n = some out1) ?_ k ⟨_, rfl, h70⟩
      rintro m st ⟨u2n, rfl, h70⟩
      cases m with
      | zero => exact (onone h70).elim
      | succ m =>
        apply Wc.seq
        apply Wc.seq
        refine Wc.region [{}, {}, { v := some (.int .i64 (zt.length : Int)) }] [] [0, 1, 5, 14] [] [] ⟨[(0, (.v (.sl (List.map GClause.c zt)), [])), (1, (.v (.sl (List.map GClause.c u0g)), [])), (5, (.v (.int .i64 u2n), [])), (14, (.v (.bool (decide (u2n < (zt.length : Int)))), []))], [], []⟩ _ (by kernel_rfl) (.cons (len_obl GClause.c zt) .nil) ?_
        rcases oif h70 with ⟨h71, h70⟩ | ⟨h71, h70⟩
        · refine Wc.condT h71 (by kernel_rfl) ?_
          refine Wc.fix (st' := ⟨[(0, (.v (.sl (List.map GClause.c zt)), [])), (1, (.v (.sl (List.map GClause.c u0g)), [])), (5, (.v (.int .i64 u2n), []))], [], []⟩) [] [0, 1, 5] [] [] (by kernel_rfl) ?_
          refine Wc.skip ?_
          apply Wc.seq
          refine Wc.block ?_
          apply Wc.seq
          obtain ⟨u8z, h72, h70⟩ := obind h70
          obtain ⟨u90, h73, h70⟩ := obind h70
          obtain ⟨uah, h74, h70⟩ := obind h70
          refine Wc.draw hmix [{}, {}, { v := some (.vptr (GClause.q u8z)) }, {}, {}, {}, { v := some (.vptr (GClause.q u90)) }, {}, { r := some (.v (.bool uah) []) }] [] [0, 1, 5, 26] [] [] ⟨[(0, (.v (.sl (List.map GClause.c zt)), [])), (1, (.v (.sl (List.map GClause.c u0g)), [])), (5, (.v (.int .i64 u2n), [])), (26, (.v (.bool (!uah)), []))], [], []⟩ _ (by kernel_rfl) (fun X => by kernel_rfl) (.cons (at_obl (c := GClause.c) (GClause.c_eq u8z) GClause.c_len h72) (.cons (len_ok 9 (GClause.q u8z)) (.cons (at_obl (c := GClause.c) (GClause.c_eq u90) GClause.c_len h73) (.cons (len_ok 9 (GClause.q u90)) (.cons (claws_eqClause h74) .nil))))) ?_
          rcases oif h70 with ⟨h75, h70⟩ | ⟨h75, h70⟩
          · refine Wc.condT h75 (by kernel_rfl) ?_
            apply Wc.seq
            refine Wc.region [] [] [4] [] [] ⟨[(4, (.v (.bool false), []))], [], []⟩ _ (by kernel_rfl) .nil ?_
            refine Wc.ret ?_
            obtain rfl := Option.some.inj h70
            obtain rfl := Option.some.inj h
            exact ⟨.inl rfl, by kernel_rfl, by kernel_rfl⟩
          · refine Wc.condF h75 (by kernel_rfl) ?_
            refine Wc.fix (st' := ⟨[(0, (.v (.sl (List.map GClause.c zt)), [])), (1, (.v (.sl (List.map GClause.c u0g)), [])), (5, (.v (.int .i64 u2n), []))], [], []⟩) [] [0, 1, 5] [] [] (by kernel_rfl) ?_
            refine Wc.skip ?_
            refine Wc.region [] [] [0, 1, 5] [] [] ⟨[(0, (.v (.sl (List.map GClause.c zt)), [])), (1, (.v (.sl (List.map GClause.c u0g)), [])), (5, (.v (.int .i64 (wr.i64 (u2n + 1))), []))], [], []⟩ _ (by kernel_rfl) .nil ?_
            exact ⟨_, Nat.lt_succ_self _, _, rfl, h70⟩
        · refine Wc.condF h71 (by kernel_rfl) ?_
          refine Wc.fix (st' := ⟨[], [], []⟩) [] [] [] [] (by kernel_rfl) ?_
          refine Wc.exit ?_
          obtain rfl := Option.some.inj h70
          exact ⟨rfl, rfl⟩
    · rintro st ⟨rfl, rfl⟩
      apply Wc.seq
      refine Wc.region [] [] [4] [] [] ⟨[(4, (.v (.bool true), []))], [], []⟩ _ (by kernel_rfl) .nil ?_
      refine Wc.ret ?_
      obtain rfl := Option.some.inj h
      exact ⟨.inl rfl, by kernel_rfl, by kernel_rfl⟩

def plaws_eqStringS_L1 (k : Nat) (zu : List ByteArray) (u0h : List ByteArray) : Nat → Int → Option (Out Bool Unit)
  | 0, _ => none
  | m + 1, u2o =>
    if (decide (u2o < (zu.length : Int))) = true then
      (at' zu u2o).bind fun u91 =>
      (at' u0h u2o).bind fun u92 =>
      if (!(sEq u91 u92)) = true then
        some (.ret false)
      else
        plaws_eqStringS_L1 k zu u0h m (wr.i64 (u2o + 1))
    else
      some (.done ())
def plaws_eqStringS (k : Nat) (zu : List ByteArray) (u0h : List ByteArray) : Option Bool :=
  if ((zu.length : Int) != (u0h.length : Int)) = true then
    some false
  else
    (plaws_eqStringS_L1 k zu u0h k 0).bind fun out1 => match out1 with
    | .ret r => some r
    | .done () =>
      some true
theorem claws_eqStringS {k : Nat} {zu : List ByteArray} {u0h : List ByteArray} {r : Bool} (h : plaws_eqStringS k zu u0h = some r) : FnO Try.prog 58 [.v (.sl (List.map cS zu)) [], .v (.sl (List.map cS u0h)) []] (.v (.bool r) []) [] := by
  refine FnO.of Try.func58 (rfl : Try.f58.body = some _) (Nat.le_of_ble_eq_true (by kernel_rfl)) (Nat.le_of_ble_eq_true (by kernel_rfl)) ?_
  intro w0 X0 Fin pv0 pb
  unfold plaws_eqStringS at h
  apply Wc.seq
  refine Wc.region [] [] [0, 1] [] [] ⟨[(0, (.v (.sl (List.map cS zu)), [])), (1, (.v (.sl (List.map cS u0h)), []))], [], []⟩ _ (by kernel_rfl) .nil ?_
  apply Wc.seq
  apply Wc.seq
  refine Wc.region [{}, { v := some (.int .i64 (zu.length : Int)) }, {}, { v := some (.int .i64 (u0h.length : Int)) }] [] [0, 1, 10] [] [] ⟨[(0, (.v (.sl (List.map cS zu)), [])), (1, (.v (.sl (List.map cS u0h)), [])), (10, (.v (.bool ((zu.length : Int) != (u0h.length : Int))), []))], [], []⟩ _ (by kernel_rfl) (.cons (len_obl cS zu) (.cons (len_obl cS u0h) .nil)) ?_
  rcases oif h with ⟨h76, h⟩ | ⟨h76, h⟩
  · refine Wc.condT h76 (by kernel_rfl) ?_
    apply Wc.seq
    refine Wc.region [] [] [4] [] [] ⟨[(4, (.v (.bool false), []))], [], []⟩ _ (by kernel_rfl) .nil ?_
    refine Wc.ret ?_
    obtain rfl := Option.some.inj h
    exact ⟨.inl rfl, by kernel_rfl, by kernel_rfl⟩
  · refine Wc.condF h76 (by kernel_rfl) ?_
    refine Wc.fix (st' := ⟨[(0, (.v (.sl (List.map cS zu)), [])), (1, (.v (.sl (List.map cS u0h)), []))], [], []⟩) [] [0, 1] [] [] (by kernel_rfl) ?_
    refine Wc.skip ?_
    apply Wc.seq
    apply Wc.seq
    refine Wc.region [] [] [0, 1, 5] [] [] ⟨[(0, (.v (.sl (List.map cS zu)), [])), (1, (.v (.sl (List.map cS u0h)), [])), (5, (.v (.int .i64 0), []))], [], []⟩ _ (by kernel_rfl) .nil ?_
    obtain ⟨out1, h77, h⟩ := obind h
    refine Wc.lastJ (fun st => out1 = .done () ∧ st = ⟨[], [], []⟩) ?_ ?_
    · refine Wc.block ?_
      refine Wc.loop (fun m st => ∃ (u2o : Int), st = ⟨[(0, (.v (.sl (List.map cS zu)), [])), (1, (.v (.sl (List.map cS u0h)), [])), (5, (.v (.int .i64 u2o), []))], [], []⟩ ∧ plaws_eqStringS_L1 k zu u0h m u2o = some out1) ?_ k ⟨_, rfl, h77⟩
      rintro m st ⟨u2o, rfl, h77⟩
      cases m with
      | zero => exact (onone h77).elim
      | succ m =>
        apply Wc.seq
        apply Wc.seq
        refine Wc.region [{}, {}, { v := some (.int .i64 (zu.length : Int)) }] [] [0, 1, 5, 14] [] [] ⟨[(0, (.v (.sl (List.map cS zu)), [])), (1, (.v (.sl (List.map cS u0h)), [])), (5, (.v (.int .i64 u2o), [])), (14, (.v (.bool (decide (u2o < (zu.length : Int)))), []))], [], []⟩ _ (by kernel_rfl) (.cons (len_obl cS zu) .nil) ?_
        rcases oif h77 with ⟨h78, h77⟩ | ⟨h78, h77⟩
        · refine Wc.condT h78 (by kernel_rfl) ?_
          refine Wc.fix (st' := ⟨[(0, (.v (.sl (List.map cS zu)), [])), (1, (.v (.sl (List.map cS u0h)), [])), (5, (.v (.int .i64 u2o), []))], [], []⟩) [] [0, 1, 5] [] [] (by kernel_rfl) ?_
          refine Wc.skip ?_
          apply Wc.seq
          refine Wc.block ?_
          apply Wc.seq
          obtain ⟨u91, h79, h77⟩ := obind h77
          obtain ⟨u92, h80, h77⟩ := obind h77
          refine Wc.draw hmix [{}, {}, { v := some (.vptr [.str u91]) }, {}, {}, {}, { v := some (.vptr [.str u92]) }] [] [0, 1, 5, 25] [] [] ⟨[(0, (.v (.sl (List.map cS zu)), [])), (1, (.v (.sl (List.map cS u0h)), [])), (5, (.v (.int .i64 u2o), [])), (25, (.v (.bool (!(sEq u91 u92))), []))], [], []⟩ _ (by kernel_rfl) (fun X => by kernel_rfl) (.cons (at_obl (c := cS) rfl cS_len h79) (.cons (len_ok 1 [.str u91]) (.cons (at_obl (c := cS) rfl cS_len h80) (.cons (len_ok 1 [.str u92]) .nil)))) ?_
          rcases oif h77 with ⟨h81, h77⟩ | ⟨h81, h77⟩
          · refine Wc.condT h81 (by kernel_rfl) ?_
            apply Wc.seq
            refine Wc.region [] [] [4] [] [] ⟨[(4, (.v (.bool false), []))], [], []⟩ _ (by kernel_rfl) .nil ?_
            refine Wc.ret ?_
            obtain rfl := Option.some.inj h77
            obtain rfl := Option.some.inj h
            exact ⟨.inl rfl, by kernel_rfl, by kernel_rfl⟩
          · refine Wc.condF h81 (by kernel_rfl) ?_
            refine Wc.fix (st' := ⟨[(0, (.v (.sl (List.map cS zu)), [])), (1, (.v (.sl (List.map cS u0h)), [])), (5, (.v (.int .i64 u2o), []))], [], []⟩) [] [0, 1, 5] [] [] (by kernel_rfl) ?_
            refine Wc.skip ?_
            refine Wc.region [] [] [0, 1, 5] [] [] ⟨[(0, (.v (.sl (List.map cS zu)), [])), (1, (.v (.sl (List.map cS u0h)), [])), (5, (.v (.int .i64 (wr.i64 (u2o + 1))), []))], [], []⟩ _ (by kernel_rfl) .nil ?_
            exact ⟨_, Nat.lt_succ_self _, _, rfl, h77⟩
        · refine Wc.condF h78 (by kernel_rfl) ?_
          refine Wc.fix (st' := ⟨[], [], []⟩) [] [] [] [] (by kernel_rfl) ?_
          refine Wc.exit ?_
          obtain rfl := Option.some.inj h77
          exact ⟨rfl, rfl⟩
    · rintro st ⟨rfl, rfl⟩
      apply Wc.seq
      refine Wc.region [] [] [4] [] [] ⟨[(4, (.v (.bool true), []))], [], []⟩ _ (by kernel_rfl) .nil ?_
      refine Wc.ret ?_
      obtain rfl := Option.some.inj h
      exact ⟨.inl rfl, by kernel_rfl, by kernel_rfl⟩

def plaws_eqDb (k : Nat) (u5r : GDb) (u5s : GDb) : Option Bool :=
  (plaws_eqClauseS k u5r.gClauses u5s.gClauses).bind fun uai =>
  if (!uai) = true then
    some false
  else
    (plaws_eqStringS k u5r.gOpen u5s.gOpen).bind fun uaj =>
    if (!uaj) = true then
      some false
    else
      some true
theorem claws_eqDb {k : Nat} {u5r : GDb} {u5s : GDb} {r : Bool} (h : plaws_eqDb k u5r u5s = some r) : FnO Try.prog 13 [.v (.agg (GDb.q u5r)) [], .v (.agg (GDb.q u5s)) []] (.v (.bool r) []) [] := by
  refine FnO.of Try.func13 (rfl : Try.f13.body = some _) (Nat.le_of_ble_eq_true (by kernel_rfl)) (Nat.le_of_ble_eq_true (by kernel_rfl)) ?_
  intro w0 X0 Fin pv0 pb
  unfold plaws_eqDb at h
  apply Wc.seq
  refine Wc.region [] [] [2, 3] [2, 3] [] ⟨[(2, (.ptr 2 0, [])), (3, (.ptr 3 0, []))], [(2, .cells (GDb.q u5r) []), (3, .cells (GDb.q u5s) [])], []⟩ _ (by kernel_rfl) .nil ?_
  apply Wc.seq
  apply Wc.seq
  obtain ⟨uai, h82, h⟩ := obind h
  refine Wc.region [{}, {}, {}, {}, { r := some (.v (.bool uai) []) }] [] [2, 3, 10] [2, 3] [] ⟨[(2, (.ptr 2 0, [])), (3, (.ptr 3 0, [])), (10, (.v (.bool (!uai)), []))], [(2, .cells (GDb.q u5r) []), (3, .cells (GDb.q u5s) [])], []⟩ _ (by kernel_rfl) (.cons (claws_eqClauseS h82) .nil) ?_
  rcases oif h with ⟨h83, h⟩ | ⟨h83, h⟩
  · refine Wc.condT h83 (by kernel_rfl) ?_
    apply Wc.seq
    refine Wc.region [] [] [4] [] [] ⟨[(4, (.v (.bool false), []))], [], []⟩ _ (by kernel_rfl) .nil ?_
    refine Wc.ret ?_
    obtain rfl := Option.some.inj h
    exact ⟨.inl rfl, by kernel_rfl, by kernel_rfl⟩
  · refine Wc.condF h83 (by kernel_rfl) ?_
    refine Wc.fix (st' := ⟨[(2, (.ptr 2 0, [])), (3, (.ptr 3 0, []))], [(2, .cells (GDb.q u5r) []), (3, .cells (GDb.q u5s) [])], []⟩) [] [2, 3] [2, 3] [] (by kernel_rfl) ?_
    refine Wc.skip ?_
    apply Wc.seq
    apply Wc.seq
    obtain ⟨uaj, h84, h⟩ := obind h
    refine Wc.region [{}, {}, {}, {}, { r := some (.v (.bool uaj) []) }] [] [16] [] [] ⟨[(16, (.v (.bool (!uaj)), []))], [], []⟩ _ (by kernel_rfl) (.cons (claws_eqStringS h84) .nil) ?_
    rcases oif h with ⟨h85, h⟩ | ⟨h85, h⟩
    · refine Wc.condT h85 (by kernel_rfl) ?_
      apply Wc.seq
      refine Wc.region [] [] [4] [] [] ⟨[(4, (.v (.bool false), []))], [], []⟩ _ (by kernel_rfl) .nil ?_
      refine Wc.ret ?_
      obtain rfl := Option.some.inj h
      exact ⟨.inl rfl, by kernel_rfl, by kernel_rfl⟩
    · refine Wc.condF h85 (by kernel_rfl) ?_
      refine Wc.fix (st' := ⟨[], [], []⟩) [] [] [] [] (by kernel_rfl) ?_
      refine Wc.skip ?_
      apply Wc.seq
      refine Wc.region [] [] [4] [] [] ⟨[(4, (.v (.bool true), []))], [], []⟩ _ (by kernel_rfl) .nil ?_
      refine Wc.ret ?_
      obtain rfl := Option.some.inj h
      exact ⟨.inl rfl, by kernel_rfl, by kernel_rfl⟩

def plaws_markText_L1 (k : Nat) : Nat → Int → ByteArray → Option (Out ByteArray ByteArray)
  | 0, _, _ => none
  | m + 1, u15, u3o =>
    if (decide (u15 > 0)) = true then
      if (10 : Int) ≠ 0 then
        if sumOk (strOfNums [wr.u8 (wr.i64 (48 + (Int.tmod u15 10)))]) u3o then
          if (10 : Int) ≠ 0 then
            plaws_markText_L1 k m (wr.i64 (Int.tdiv u15 10)) ((strOfNums [wr.u8 (wr.i64 (48 + (Int.tmod u15 10)))]) ++ u3o)
          else none
        else none
      else none
    else
      some (.done u3o)
def plaws_markText (k : Nat) (u4j : Int) : Option ByteArray :=
  if (decide (u4j ≤ 0)) = true then
    some (bs [109, 48])
  else
    (plaws_markText_L1 k k u4j (bs [])).bind fun out1 => match out1 with
    | .ret r => some r
    | .done u6b =>
      if sumOk (bs [109]) u6b then
        some ((bs [109]) ++ u6b)
      else none
theorem claws_markText {k : Nat} {u4j : Int} {r : ByteArray} (h : plaws_markText k u4j = some r) : FnO Try.prog 108 [.v (.int .i64 u4j) []] (.v (.str r) []) [] := by
  refine FnO.of Try.func108 (rfl : Try.f108.body = some _) (Nat.le_of_ble_eq_true (by kernel_rfl)) (Nat.le_of_ble_eq_true (by kernel_rfl)) ?_
  intro w0 X0 Fin pv0 pb
  unfold plaws_markText at h
  apply Wc.seq
  refine Wc.region [] [] [0] [] [] ⟨[(0, (.v (.int .i64 u4j), []))], [], []⟩ _ (by kernel_rfl) .nil ?_
  apply Wc.seq
  apply Wc.seq
  refine Wc.region [] [] [0, 5] [] [] ⟨[(0, (.v (.int .i64 u4j), [])), (5, (.v (.bool (decide (u4j ≤ 0))), []))], [], []⟩ _ (by kernel_rfl) .nil ?_
  rcases oif h with ⟨h86, h⟩ | ⟨h86, h⟩
  · refine Wc.condT h86 (by kernel_rfl) ?_
    apply Wc.seq
    refine Wc.region [] [] [2] [] [] ⟨[(2, (.v (.str (bs [109, 48])), []))], [], []⟩ _ (by kernel_rfl) .nil ?_
    refine Wc.ret ?_
    obtain rfl := Option.some.inj h
    exact ⟨.inl rfl, by kernel_rfl, by kernel_rfl⟩
  · refine Wc.condF h86 (by kernel_rfl) ?_
    refine Wc.fix (st' := ⟨[(0, (.v (.int .i64 u4j), []))], [], []⟩) [] [0] [] [] (by kernel_rfl) ?_
    refine Wc.skip ?_
    apply Wc.seq
    refine Wc.region [] [] [0, 3] [] [] ⟨[(0, (.v (.int .i64 u4j), [])), (3, (.v (.str (bs [])), []))], [], []⟩ _ (by kernel_rfl) .nil ?_
    obtain ⟨out1, h87, h⟩ := obind h
    refine Wc.seqJ (fun st => ∃ (u6b : ByteArray), out1 = .done u6b ∧ st = ⟨[(3, (.v (.str u6b), []))], [], []⟩) ?_ ?_
    · refine Wc.block ?_
      refine Wc.loop (fun m st => ∃ (u15 : Int) (u3o : ByteArray), st = ⟨[(0, (.v (.int .i64 u15), [])), (3, (.v (.str u3o), []))], [], []⟩ ∧ plaws_markText_L1 k m u15 u3o = some out1) ?_ k ⟨_, _, rfl, h87⟩
      rintro m st ⟨u15, u3o, rfl, h87⟩
      cases m with
      | zero => exact (onone h87).elim
      | succ m =>
        apply Wc.seq
        apply Wc.seq
        refine Wc.region [] [] [0, 3, 7] [] [] ⟨[(0, (.v (.int .i64 u15), [])), (3, (.v (.str u3o), [])), (7, (.v (.bool (decide (u15 > 0))), []))], [], []⟩ _ (by kernel_rfl) .nil ?_
        rcases oif h87 with ⟨h88, h87⟩ | ⟨h88, h87⟩
        · refine Wc.condT h88 (by kernel_rfl) ?_
          refine Wc.fix (st' := ⟨[(0, (.v (.int .i64 u15), [])), (3, (.v (.str u3o), []))], [], []⟩) [] [0, 3] [] [] (by kernel_rfl) ?_
          refine Wc.skip ?_
          refine Wc.block ?_
          apply Wc.seq
          obtain ⟨h89, h87⟩ := oguard h87
          obtain ⟨h90, h87⟩ := oguard h87
          refine Wc.region [{}, {}, {}, {}, { c := some (List.map cI.u8 [wr.u8 (wr.i64 (48 + (Int.tmod u15 10)))]) }, { v := some (.str (strOfNums [wr.u8 (wr.i64 (48 + (Int.tmod u15 10)))])) }] [] [0, 3] [] [] ⟨[(0, (.v (.int .i64 u15), [])), (3, (.v (.str ((strOfNums [wr.u8 (wr.i64 (48 + (Int.tmod u15 10)))]) ++ u3o)), []))], [], []⟩ _ (by kernel_rfl) (.cons h89 (.cons (cl_cons (c := cI.u8) (x := wr.u8 (wr.i64 (48 + (Int.tmod u15 10)))) rfl (cl_nil cI.u8)) (.cons (bytes_obl [wr.u8 (wr.i64 (48 + (Int.tmod u15 10)))]) (.cons h90 .nil)))) ?_
          obtain ⟨h91, h87⟩ := oguard h87
          refine Wc.region [] [] [0, 3] [] [] ⟨[(0, (.v (.int .i64 (wr.i64 (Int.tdiv u15 10))), [])), (3, (.v (.str ((strOfNums [wr.u8 (wr.i64 (48 + (Int.tmod u15 10)))]) ++ u3o)), []))], [], []⟩ _ (by kernel_rfl) (.cons h91 .nil) ?_
          exact ⟨_, Nat.lt_succ_self _, _, _, rfl, h87⟩
        · refine Wc.condF h88 (by kernel_rfl) ?_
          refine Wc.fix (st' := ⟨[(3, (.v (.str u3o), []))], [], []⟩) [] [3] [] [] (by kernel_rfl) ?_
          refine Wc.exit ?_
          obtain rfl := Option.some.inj h87
          exact ⟨_, rfl, rfl⟩
    · rintro st ⟨u6b, rfl, rfl⟩
      apply Wc.seq
      obtain ⟨h92, h⟩ := oguard h
      refine Wc.region [] [] [2] [] [] ⟨[(2, (.v (.str ((bs [109]) ++ u6b)), []))], [], []⟩ _ (by kernel_rfl) (.cons h92 .nil) ?_
      refine Wc.ret ?_
      obtain rfl := Option.some.inj h
      exact ⟨.inl rfl, by kernel_rfl, by kernel_rfl⟩

def plaws_markTermS_L1 (k : Nat) (rlaws_markTermS : (List GTerm) → Int → Option ((List GTerm) × Int)) : Nat → Int → Int → (List GTerm) → Option (Out ((List GTerm) × Int) (Int × (List GTerm)))
  | 0, _, _, _ => none
  | m + 1, vd, uz, zh =>
    if (decide (uz < (zh.length : Int))) = true then
      (at' zh uz).bind fun v5 =>
      (plaws_markText k (wr.i64 (vd + 1))).bind fun u1w =>
      (at' (zh.set ((uz).toNat) (GTerm.mk vd v5.gName v5.gNum v5.gKids)) uz).bind fun vh =>
      (at' ((zh.set ((uz).toNat) (GTerm.mk vd v5.gName v5.gNum v5.gKids)).set ((uz).toNat) (GTerm.mk vh.gKind u1w vh.gNum vh.gKids)) uz).bind fun za =>
      (at' (((zh.set ((uz).toNat) (GTerm.mk vd v5.gName v5.gNum v5.gKids)).set ((uz).toNat) (GTerm.mk vh.gKind u1w vh.gNum vh.gKids)).set ((uz).toNat) (GTerm.mk za.gKind za.gName (wr.i64 ((wr.i64 (vd + 1)) + 1)) za.gKids)) uz).bind fun u09 =>
      (rlaws_markTermS u09.gKids (wr.i64 ((wr.i64 ((wr.i64 (vd + 1)) + 1)) + 1))).bind fun u3p =>
      plaws_markTermS_L1 k rlaws_markTermS m u3p.2 (wr.i64 (uz + 1)) ((((zh.set ((uz).toNat) (GTerm.mk vd v5.gName v5.gNum v5.gKids)).set ((uz).toNat) (GTerm.mk vh.gKind u1w vh.gNum vh.gKids)).set ((uz).toNat) (GTerm.mk za.gKind za.gName (wr.i64 ((wr.i64 (vd + 1)) + 1)) za.gKids)).set ((uz).toNat) (GTerm.mk u09.gKind u09.gName u09.gNum u3p.1))
    else
      some (.done (vd, zh))
mutual
def plaws_markTermS : Nat → (List GTerm) → Int → Option ((List GTerm) × Int)
  | 0, _, _ => none
  | k + 1, u45, u46 =>
    (plaws_markTermS_L1 k (plaws_markTermS k) k u46 0 u45).bind fun out1 => match out1 with
    | .ret r => some r
    | .done (u6p, u6q) =>
      some (u6q, u6p)
end
theorem all_plaws_markTermS : ∀ k : Nat, (∀ {u45 : List GTerm} {u46 : Int} {r : (List GTerm) × Int}, plaws_markTermS k u45 u46 = some r → FnO Try.prog 76 [.io (.slx) [(0, .ex 1000000007 true (List.map GTerm.c u45))], .v (.int .i64 u46) []] (.v (.int .i64 r.2) []) [(0, .v .undef [(0, .ex 1000000007 true (List.map GTerm.c r.1))])]) := by
  intro k
  induction k with
  | zero =>
    · intro u45 u46 r h
      exact (onone (by rw [plaws_markTermS] at h; exact h)).elim
  | succ k ih =>
    have ih_plaws_markTermS := @ih
    · intro u45 u46 r h
      rw [plaws_markTermS] at h
      refine FnO.of Try.func76 (rfl : Try.f76.body = some _) (Nat.le_of_ble_eq_true (by kernel_rfl)) (Nat.le_of_ble_eq_true (by kernel_rfl)) ?_
      intro w0 X0 Fin pv0 pb
      apply Wc.seq
      refine Wc.region [] [] [0, 1] [] [0] ⟨[(0, (.v (.slx), [(0, .al (.a 0 0) [])])), (1, (.v (.int .i64 u46), []))], [], [(0, [(0, .ex 1000000007 true (List.map GTerm.c u45))])]⟩ _ (by kernel_rfl) .nil ?_
      apply Wc.seq
      apply Wc.seq
      refine Wc.region [] [] [0, 1, 5] [] [0] ⟨[(0, (.v (.slx), [(0, .al (.a 0 0) [])])), (1, (.v (.int .i64 u46), [])), (5, (.v (.int .i64 0), []))], [], [(0, [(0, .ex 1000000007 true (List.map GTerm.c u45))])]⟩ _ (by kernel_rfl) .nil ?_
      obtain ⟨out1, h93, h⟩ := obind h
      refine Wc.lastJ (fun st => ∃ (u6p : Int) (u6q : List GTerm), out1 = .done (u6p, u6q) ∧ st = ⟨[(1, (.v (.int .i64 u6p), []))], [], [(0, [(0, .ex 1000000007 true (List.map GTerm.c u6q))])]⟩) ?_ ?_
      · refine Wc.block ?_
        refine Wc.loop (fun m st => ∃ (vd : Int) (uz : Int) (zh : List GTerm), st = ⟨[(0, (.v (.slx), [(0, .al (.a 0 0) [])])), (1, (.v (.int .i64 vd), [])), (5, (.v (.int .i64 uz), []))], [], [(0, [(0, .ex 1000000007 true (List.map GTerm.c zh))])]⟩ ∧ plaws_markTermS_L1 k (plaws_markTermS k) m vd uz zh = some out1) ?_ k ⟨_, _, _, rfl, h93⟩
        rintro m st ⟨vd, uz, zh, rfl, h93⟩
        cases m with
        | zero => exact (onone h93).elim
        | succ m =>
          apply Wc.seq
          apply Wc.seq
          refine Wc.region [{}, {}, { v := some (.int .i64 (zh.length : Int)) }] [] [0, 1, 5, 9] [] [0] ⟨[(0, (.v (.slx), [(0, .al (.a 0 0) [])])), (1, (.v (.int .i64 vd), [])), (5, (.v (.int .i64 uz), [])), (9, (.v (.bool (decide (uz < (zh.length : Int)))), []))], [], [(0, [(0, .ex 1000000007 true (List.map GTerm.c zh))])]⟩ _ (by kernel_rfl) (.cons (len_obl GTerm.c zh) .nil) ?_
          rcases oif h93 with ⟨h94, h93⟩ | ⟨h94, h93⟩
          · refine Wc.condT h94 (by kernel_rfl) ?_
            refine Wc.fix (st' := ⟨[(0, (.v (.slx), [(0, .al (.a 0 0) [])])), (1, (.v (.int .i64 vd), [])), (5, (.v (.int .i64 uz), []))], [], [(0, [(0, .ex 1000000007 true (List.map GTerm.c zh))])]⟩) [] [0, 1, 5] [] [0] (by kernel_rfl) ?_
            refine Wc.skip ?_
            apply Wc.seq
            refine Wc.block ?_
            apply Wc.seq
            obtain ⟨v5, h95, h93⟩ := obind h93
            refine Wc.region [{}, {}, {}, {}, {}, { c := some (List.map GTerm.c (zh.set ((uz).toNat) (GTerm.mk vd v5.gName v5.gNum v5.gKids))) }] [] [0, 1, 5] [] [0] ⟨[(0, (.v (.slx), [(0, .al (.a 0 0) [])])), (1, (.v (.int .i64 vd), [])), (5, (.v (.int .i64 uz), []))], [], [(0, [(0, .ex 1000000007 true (List.map GTerm.c (zh.set ((uz).toNat) (GTerm.mk vd v5.gName v5.gNum v5.gKids))))])]⟩ _ (by kernel_rfl) (.cons (ix_obl (c := GTerm.c) GTerm.c_len h95) (.cons (mod_obl (off := 0) (new := [.int .i64 vd]) (c := GTerm.c) (GTerm.c_eq v5) (GTerm.c_eq (GTerm.mk vd v5.gName v5.gNum v5.gKids)) (at'_spec h95).2 rfl) (.cons (st_obl (sz := 4) (off := 0) (s := 1) (c := GTerm.c) (GTerm.c_eq v5) (at'_spec h95).2 rfl (Nat.le_of_ble_eq_true rfl)) .nil))) ?_
            apply Wc.seq
            refine Wc.region [] [] [0, 1, 5] [] [0] ⟨[(0, (.v (.slx), [(0, .al (.a 0 0) [])])), (1, (.v (.int .i64 (wr.i64 (vd + 1))), [])), (5, (.v (.int .i64 uz), []))], [], [(0, [(0, .ex 1000000007 true (List.map GTerm.c (zh.set ((uz).toNat) (GTerm.mk vd v5.gName v5.gNum v5.gKids))))])]⟩ _ (by kernel_rfl) .nil ?_
            apply Wc.seq
            obtain ⟨u1w, h96, h93⟩ := obind h93
            obtain ⟨vh, h97, h93⟩ := obind h93
            refine Wc.region [{}, {}, {}, { r := some (.v (.str u1w) []) }, {}, {}, { c := some (List.map GTerm.c ((zh.set ((uz).toNat) (GTerm.mk vd v5.gName v5.gNum v5.gKids)).set ((uz).toNat) (GTerm.mk vh.gKind u1w vh.gNum vh.gKids))) }] [] [0, 1, 5] [] [0] ⟨[(0, (.v (.slx), [(0, .al (.a 0 0) [])])), (1, (.v (.int .i64 (wr.i64 (vd + 1))), [])), (5, (.v (.int .i64 uz), []))], [], [(0, [(0, .ex 1000000007 true (List.map GTerm.c ((zh.set ((uz).toNat) (GTerm.mk vd v5.gName v5.gNum v5.gKids)).set ((uz).toNat) (GTerm.mk vh.gKind u1w vh.gNum vh.gKids))))])]⟩ _ (by kernel_rfl) (.cons (claws_markText h96) (.cons (ix_obl (c := GTerm.c) GTerm.c_len h97) (.cons (mod_obl (off := 1) (new := [.str u1w]) (c := GTerm.c) (GTerm.c_eq vh) (GTerm.c_eq (GTerm.mk vh.gKind u1w vh.gNum vh.gKids)) (at'_spec h97).2 rfl) (.cons (st_obl (sz := 4) (off := 1) (s := 1) (c := GTerm.c) (GTerm.c_eq vh) (at'_spec h97).2 rfl (Nat.le_of_ble_eq_true rfl)) .nil)))) ?_
            apply Wc.seq
            refine Wc.region [] [] [0, 1, 5] [] [0] ⟨[(0, (.v (.slx), [(0, .al (.a 0 0) [])])), (1, (.v (.int .i64 (wr.i64 ((wr.i64 (vd + 1)) + 1))), [])), (5, (.v (.int .i64 uz), []))], [], [(0, [(0, .ex 1000000007 true (List.map GTerm.c ((zh.set ((uz).toNat) (GTerm.mk vd v5.gName v5.gNum v5.gKids)).set ((uz).toNat) (GTerm.mk vh.gKind u1w vh.gNum vh.gKids))))])]⟩ _ (by kernel_rfl) .nil ?_
            apply Wc.seq
            obtain ⟨za, h98, h93⟩ := obind h93
            refine Wc.region [{}, {}, {}, {}, {}, { c := some (List.map GTerm.c (((zh.set ((uz).toNat) (GTerm.mk vd v5.gName v5.gNum v5.gKids)).set ((uz).toNat) (GTerm.mk vh.gKind u1w vh.gNum vh.gKids)).set ((uz).toNat) (GTerm.mk za.gKind za.gName (wr.i64 ((wr.i64 (vd + 1)) + 1)) za.gKids))) }] [] [0, 1, 5] [] [0] ⟨[(0, (.v (.slx), [(0, .al (.a 0 0) [])])), (1, (.v (.int .i64 (wr.i64 ((wr.i64 (vd + 1)) + 1))), [])), (5, (.v (.int .i64 uz), []))], [], [(0, [(0, .ex 1000000007 true (List.map GTerm.c (((zh.set ((uz).toNat) (GTerm.mk vd v5.gName v5.gNum v5.gKids)).set ((uz).toNat) (GTerm.mk vh.gKind u1w vh.gNum vh.gKids)).set ((uz).toNat) (GTerm.mk za.gKind za.gName (wr.i64 ((wr.i64 (vd + 1)) + 1)) za.gKids))))])]⟩ _ (by kernel_rfl) (.cons (ix_obl (c := GTerm.c) GTerm.c_len h98) (.cons (mod_obl (off := 2) (new := [.int .i64 (wr.i64 ((wr.i64 (vd + 1)) + 1))]) (c := GTerm.c) (GTerm.c_eq za) (GTerm.c_eq (GTerm.mk za.gKind za.gName (wr.i64 ((wr.i64 (vd + 1)) + 1)) za.gKids)) (at'_spec h98).2 rfl) (.cons (st_obl (sz := 4) (off := 2) (s := 1) (c := GTerm.c) (GTerm.c_eq za) (at'_spec h98).2 rfl (Nat.le_of_ble_eq_true rfl)) .nil))) ?_
            apply Wc.seq
            refine Wc.region [] [] [0, 1, 5] [] [0] ⟨[(0, (.v (.slx), [(0, .al (.a 0 0) [])])), (1, (.v (.int .i64 (wr.i64 ((wr.i64 ((wr.i64 (vd + 1)) + 1)) + 1))), [])), (5, (.v (.int .i64 uz), []))], [], [(0, [(0, .ex 1000000007 true (List.map GTerm.c (((zh.set ((uz).toNat) (GTerm.mk vd v5.gName v5.gNum v5.gKids)).set ((uz).toNat) (GTerm.mk vh.gKind u1w vh.gNum vh.gKids)).set ((uz).toNat) (GTerm.mk za.gKind za.gName (wr.i64 ((wr.i64 (vd + 1)) + 1)) za.gKids))))])]⟩ _ (by kernel_rfl) .nil ?_
            obtain ⟨u09, h99, h93⟩ := obind h93
            obtain ⟨u3p, h100, h93⟩ := obind h93
            refine Wc.region [{}, {}, {}, {}, { v := some (.slx) }, {}, { c := some (List.map GTerm.c ((((zh.set ((uz).toNat) (GTerm.mk vd v5.gName v5.gNum v5.gKids)).set ((uz).toNat) (GTerm.mk vh.gKind u1w vh.gNum vh.gKids)).set ((uz).toNat) (GTerm.mk za.gKind za.gName (wr.i64 ((wr.i64 (vd + 1)) + 1)) za.gKids)).set ((uz).toNat) (GTerm.mk u09.gKind u09.gName u09.gNum u3p.1))), io := [0], r := some (.v (.int .i64 u3p.2) []), outs := [(0, .v .undef [(0, .ex 1000000007 true (List.map GTerm.c u3p.1))])], ioc := [(0, .ex 1000000007 true (List.map GTerm.c u09.gKids))] }] [] [0, 1, 5] [] [0] ⟨[(0, (.v (.slx), [(0, .al (.a 0 0) [])])), (1, (.v (.int .i64 u3p.2), [])), (5, (.v (.int .i64 uz), []))], [], [(0, [(0, .ex 1000000007 true (List.map GTerm.c ((((zh.set ((uz).toNat) (GTerm.mk vd v5.gName v5.gNum v5.gKids)).set ((uz).toNat) (GTerm.mk vh.gKind u1w vh.gNum vh.gKids)).set ((uz).toNat) (GTerm.mk za.gKind za.gName (wr.i64 ((wr.i64 (vd + 1)) + 1)) za.gKids)).set ((uz).toNat) (GTerm.mk u09.gKind u09.gName u09.gNum u3p.1))))])]⟩ _ (by kernel_rfl) (.cons (ix_obl (c := GTerm.c) GTerm.c_len h99) (.cons (el_oblD (sz := 4) (off := 3) (s := 1) (ag := false) (v := .slx) (c := GTerm.c) (GTerm.c_eq u09) (at'_spec h99).2 rfl (Nat.le_of_ble_eq_true rfl) rfl) (.cons (own_obl (own := [(0, .al (.a 0 0) [(((uz).toNat), 4, 3)])]) (p := .a 0 0) (m := (uz).toNat) (sz := 4) (off := 3) (js := [0]) rfl) (.cons (seg_obl (sz := 4) (off := 3) (n := [.sl (List.map GTerm.c u09.gKids)]) (c := GTerm.c) (GTerm.c_eq u09) (at'_spec h99).2 rfl (Nat.le_of_ble_eq_true rfl) rfl) (.cons (mod_obl (off := 3) (new := [.sl (List.map GTerm.c u3p.1)]) (c := GTerm.c) (GTerm.c_eq u09) (GTerm.c_eq (GTerm.mk u09.gKind u09.gName u09.gNum u3p.1)) (at'_spec h99).2 rfl) (.cons (FnO.any (args := [.io (.slx) [(0, .ex 1000000007 true (List.map GTerm.c u09.gKids))], .v (.int .i64 (wr.i64 ((wr.i64 ((wr.i64 (vd + 1)) + 1)) + 1))) []]) (ih_plaws_markTermS h100)) .nil)))))) ?_
            refine Wc.region [] [] [0, 1, 5] [] [0] ⟨[(0, (.v (.slx), [(0, .al (.a 0 0) [])])), (1, (.v (.int .i64 u3p.2), [])), (5, (.v (.int .i64 (wr.i64 (uz + 1))), []))], [], [(0, [(0, .ex 1000000007 true (List.map GTerm.c ((((zh.set ((uz).toNat) (GTerm.mk vd v5.gName v5.gNum v5.gKids)).set ((uz).toNat) (GTerm.mk vh.gKind u1w vh.gNum vh.gKids)).set ((uz).toNat) (GTerm.mk za.gKind za.gName (wr.i64 ((wr.i64 (vd + 1)) + 1)) za.gKids)).set ((uz).toNat) (GTerm.mk u09.gKind u09.gName u09.gNum u3p.1))))])]⟩ _ (by kernel_rfl) .nil ?_
            exact ⟨_, Nat.lt_succ_self _, _, _, _, rfl, h93⟩
          · refine Wc.condF h94 (by kernel_rfl) ?_
            refine Wc.fix (st' := ⟨[(1, (.v (.int .i64 vd), []))], [], [(0, [(0, .ex 1000000007 true (List.map GTerm.c zh))])]⟩) [] [1] [] [0] (by kernel_rfl) ?_
            refine Wc.exit ?_
            obtain rfl := Option.some.inj h93
            exact ⟨_, _, rfl, rfl⟩
      · rintro st ⟨u6p, u6q, rfl, rfl⟩
        apply Wc.seq
        refine Wc.region [] [] [4] [] [0] ⟨[(4, (.v (.int .i64 u6p), []))], [], [(0, [(0, .ex 1000000007 true (List.map GTerm.c u6q))])]⟩ _ (by kernel_rfl) .nil ?_
        refine Wc.ret ?_
        obtain rfl := Option.some.inj h
        exact ⟨.inl rfl, by kernel_rfl, by kernel_rfl⟩
theorem claws_markTermS {k : Nat} {u45 : List GTerm} {u46 : Int} {r : (List GTerm) × Int} (h : plaws_markTermS k u45 u46 = some r) : FnO Try.prog 76 [.io (.slx) [(0, .ex 1000000007 true (List.map GTerm.c u45))], .v (.int .i64 u46) []] (.v (.int .i64 r.2) []) [(0, .v .undef [(0, .ex 1000000007 true (List.map GTerm.c r.1))])] := (all_plaws_markTermS k) h

def plaws_markClauseS_L1 (k : Nat) : Nat → Int → Int → (List GClause) → Option (Out ((List GClause) × Int) (Int × (List GClause)))
  | 0, _, _, _ => none
  | m + 1, up, u9, va =>
    if (decide (u9 < (va.length : Int))) = true then
      (at' va u9).bind fun ua =>
      (plaws_markText k (wr.i64 (up + 1))).bind fun vv =>
      (at' (va.set ((u9).toNat) (GClause.mk (GTerm.mk up ua.gHead.gName ua.gHead.gNum ua.gHead.gKids) ua.gBody ua.gFile)) u9).bind fun ub =>
      (at' ((va.set ((u9).toNat) (GClause.mk (GTerm.mk up ua.gHead.gName ua.gHead.gNum ua.gHead.gKids) ua.gBody ua.gFile)).set ((u9).toNat) (GClause.mk (GTerm.mk ub.gHead.gKind vv ub.gHead.gNum ub.gHead.gKids) ub.gBody ub.gFile)) u9).bind fun uc =>
      (at' (((va.set ((u9).toNat) (GClause.mk (GTerm.mk up ua.gHead.gName ua.gHead.gNum ua.gHead.gKids) ua.gBody ua.gFile)).set ((u9).toNat) (GClause.mk (GTerm.mk ub.gHead.gKind vv ub.gHead.gNum ub.gHead.gKids) ub.gBody ub.gFile)).set ((u9).toNat) (GClause.mk (GTerm.mk uc.gHead.gKind uc.gHead.gName (wr.i64 ((wr.i64 (up + 1)) + 1)) uc.gHead.gKids) uc.gBody uc.gFile)) u9).bind fun ud =>
      (plaws_markTermS k ud.gHead.gKids (wr.i64 ((wr.i64 ((wr.i64 (up + 1)) + 1)) + 1))).bind fun uq =>
      (at' ((((va.set ((u9).toNat) (GClause.mk (GTerm.mk up ua.gHead.gName ua.gHead.gNum ua.gHead.gKids) ua.gBody ua.gFile)).set ((u9).toNat) (GClause.mk (GTerm.mk ub.gHead.gKind vv ub.gHead.gNum ub.gHead.gKids) ub.gBody ub.gFile)).set ((u9).toNat) (GClause.mk (GTerm.mk uc.gHead.gKind uc.gHead.gName (wr.i64 ((wr.i64 (up + 1)) + 1)) uc.gHead.gKids) uc.gBody uc.gFile)).set ((u9).toNat) (GClause.mk (GTerm.mk ud.gHead.gKind ud.gHead.gName ud.gHead.gNum uq.1) ud.gBody ud.gFile)) u9).bind fun ui =>
      (plaws_markText k (wr.i64 (uq.2 + 1))).bind fun u0w =>
      (at' (((((va.set ((u9).toNat) (GClause.mk (GTerm.mk up ua.gHead.gName ua.gHead.gNum ua.gHead.gKids) ua.gBody ua.gFile)).set ((u9).toNat) (GClause.mk (GTerm.mk ub.gHead.gKind vv ub.gHead.gNum ub.gHead.gKids) ub.gBody ub.gFile)).set ((u9).toNat) (GClause.mk (GTerm.mk uc.gHead.gKind uc.gHead.gName (wr.i64 ((wr.i64 (up + 1)) + 1)) uc.gHead.gKids) uc.gBody uc.gFile)).set ((u9).toNat) (GClause.mk (GTerm.mk ud.gHead.gKind ud.gHead.gName ud.gHead.gNum uq.1) ud.gBody ud.gFile)).set ((u9).toNat) (GClause.mk ui.gHead (GTerm.mk uq.2 ui.gBody.gName ui.gBody.gNum ui.gBody.gKids) ui.gFile)) u9).bind fun uo =>
      (at' ((((((va.set ((u9).toNat) (GClause.mk (GTerm.mk up ua.gHead.gName ua.gHead.gNum ua.gHead.gKids) ua.gBody ua.gFile)).set ((u9).toNat) (GClause.mk (GTerm.mk ub.gHead.gKind vv ub.gHead.gNum ub.gHead.gKids) ub.gBody ub.gFile)).set ((u9).toNat) (GClause.mk (GTerm.mk uc.gHead.gKind uc.gHead.gName (wr.i64 ((wr.i64 (up + 1)) + 1)) uc.gHead.gKids) uc.gBody uc.gFile)).set ((u9).toNat) (GClause.mk (GTerm.mk ud.gHead.gKind ud.gHead.gName ud.gHead.gNum uq.1) ud.gBody ud.gFile)).set ((u9).toNat) (GClause.mk ui.gHead (GTerm.mk uq.2 ui.gBody.gName ui.gBody.gNum ui.gBody.gKids) ui.gFile)).set ((u9).toNat) (GClause.mk uo.gHead (GTerm.mk uo.gBody.gKind u0w uo.gBody.gNum uo.gBody.gKids) uo.gFile)) u9).bind fun uv =>
      (at' (((((((va.set ((u9).toNat) (GClause.mk (GTerm.mk up ua.gHead.gName ua.gHead.gNum ua.gHead.gKids) ua.gBody ua.gFile)).set ((u9).toNat) (GClause.mk (GTerm.mk ub.gHead.gKind vv ub.gHead.gNum ub.gHead.gKids) ub.gBody ub.gFile)).set ((u9).toNat) (GClause.mk (GTerm.mk uc.gHead.gKind uc.gHead.gName (wr.i64 ((wr.i64 (up + 1)) + 1)) uc.gHead.gKids) uc.gBody uc.gFile)).set ((u9).toNat) (GClause.mk (GTerm.mk ud.gHead.gKind ud.gHead.gName ud.gHead.gNum uq.1) ud.gBody ud.gFile)).set ((u9).toNat) (GClause.mk ui.gHead (GTerm.mk uq.2 ui.gBody.gName ui.gBody.gNum ui.gBody.gKids) ui.gFile)).set ((u9).toNat) (GClause.mk uo.gHead (GTerm.mk uo.gBody.gKind u0w uo.gBody.gNum uo.gBody.gKids) uo.gFile)).set ((u9).toNat) (GClause.mk uv.gHead (GTerm.mk uv.gBody.gKind uv.gBody.gName (wr.i64 ((wr.i64 (uq.2 + 1)) + 1)) uv.gBody.gKids) uv.gFile)) u9).bind fun v6 =>
      (plaws_markTermS k v6.gBody.gKids (wr.i64 ((wr.i64 ((wr.i64 (uq.2 + 1)) + 1)) + 1))).bind fun u16 =>
      (plaws_markText k u16.2).bind fun u4y =>
      (at' ((((((((va.set ((u9).toNat) (GClause.mk (GTerm.mk up ua.gHead.gName ua.gHead.gNum ua.gHead.gKids) ua.gBody ua.gFile)).set ((u9).toNat) (GClause.mk (GTerm.mk ub.gHead.gKind vv ub.gHead.gNum ub.gHead.gKids) ub.gBody ub.gFile)).set ((u9).toNat) (GClause.mk (GTerm.mk uc.gHead.gKind uc.gHead.gName (wr.i64 ((wr.i64 (up + 1)) + 1)) uc.gHead.gKids) uc.gBody uc.gFile)).set ((u9).toNat) (GClause.mk (GTerm.mk ud.gHead.gKind ud.gHead.gName ud.gHead.gNum uq.1) ud.gBody ud.gFile)).set ((u9).toNat) (GClause.mk ui.gHead (GTerm.mk uq.2 ui.gBody.gName ui.gBody.gNum ui.gBody.gKids) ui.gFile)).set ((u9).toNat) (GClause.mk uo.gHead (GTerm.mk uo.gBody.gKind u0w uo.gBody.gNum uo.gBody.gKids) uo.gFile)).set ((u9).toNat) (GClause.mk uv.gHead (GTerm.mk uv.gBody.gKind uv.gBody.gName (wr.i64 ((wr.i64 (uq.2 + 1)) + 1)) uv.gBody.gKids) uv.gFile)).set ((u9).toNat) (GClause.mk v6.gHead (GTerm.mk v6.gBody.gKind v6.gBody.gName v6.gBody.gNum u16.1) v6.gFile)) u9).bind fun u26 =>
      plaws_markClauseS_L1 k m (wr.i64 (u16.2 + 1)) (wr.i64 (u9 + 1)) (((((((((va.set ((u9).toNat) (GClause.mk (GTerm.mk up ua.gHead.gName ua.gHead.gNum ua.gHead.gKids) ua.gBody ua.gFile)).set ((u9).toNat) (GClause.mk (GTerm.mk ub.gHead.gKind vv ub.gHead.gNum ub.gHead.gKids) ub.gBody ub.gFile)).set ((u9).toNat) (GClause.mk (GTerm.mk uc.gHead.gKind uc.gHead.gName (wr.i64 ((wr.i64 (up + 1)) + 1)) uc.gHead.gKids) uc.gBody uc.gFile)).set ((u9).toNat) (GClause.mk (GTerm.mk ud.gHead.gKind ud.gHead.gName ud.gHead.gNum uq.1) ud.gBody ud.gFile)).set ((u9).toNat) (GClause.mk ui.gHead (GTerm.mk uq.2 ui.gBody.gName ui.gBody.gNum ui.gBody.gKids) ui.gFile)).set ((u9).toNat) (GClause.mk uo.gHead (GTerm.mk uo.gBody.gKind u0w uo.gBody.gNum uo.gBody.gKids) uo.gFile)).set ((u9).toNat) (GClause.mk uv.gHead (GTerm.mk uv.gBody.gKind uv.gBody.gName (wr.i64 ((wr.i64 (uq.2 + 1)) + 1)) uv.gBody.gKids) uv.gFile)).set ((u9).toNat) (GClause.mk v6.gHead (GTerm.mk v6.gBody.gKind v6.gBody.gName v6.gBody.gNum u16.1) v6.gFile)).set ((u9).toNat) (GClause.mk u26.gHead u26.gBody u4y))
    else
      some (.done (up, va))
def plaws_markClauseS (k : Nat) (u6r : List GClause) (u6s : Int) : Option ((List GClause) × Int) :=
  (plaws_markClauseS_L1 k k u6s 0 u6r).bind fun out1 => match out1 with
  | .ret r => some r
  | .done (u6t, u6u) =>
    some (u6u, u6t)
set_option maxHeartbeats 4000000 in
theorem claws_markClauseS {k : Nat} {u6r : List GClause} {u6s : Int} {r : (List GClause) × Int} (h : plaws_markClauseS k u6r u6s = some r) : FnO Try.prog 59 [.io (.slx) [(0, .ex 1000000007 true (List.map GClause.c u6r))], .v (.int .i64 u6s) []] (.v (.int .i64 r.2) []) [(0, .v .undef [(0, .ex 1000000007 true (List.map GClause.c r.1))])] := by
  refine FnO.of Try.func59 (rfl : Try.f59.body = some _) (Nat.le_of_ble_eq_true (by kernel_rfl)) (Nat.le_of_ble_eq_true (by kernel_rfl)) ?_
  intro w0 X0 Fin pv0 pb
  unfold plaws_markClauseS at h
  apply Wc.seq
  refine Wc.region [] [] [0, 1] [] [0] ⟨[(0, (.v (.slx), [(0, .al (.a 0 0) [])])), (1, (.v (.int .i64 u6s), []))], [], [(0, [(0, .ex 1000000007 true (List.map GClause.c u6r))])]⟩ _ (by kernel_rfl) .nil ?_
  apply Wc.seq
  apply Wc.seq
  refine Wc.region [] [] [0, 1, 5] [] [0] ⟨[(0, (.v (.slx), [(0, .al (.a 0 0) [])])), (1, (.v (.int .i64 u6s), [])), (5, (.v (.int .i64 0), []))], [], [(0, [(0, .ex 1000000007 true (List.map GClause.c u6r))])]⟩ _ (by kernel_rfl) .nil ?_
  obtain ⟨out1, h101, h⟩ := obind h
  refine Wc.lastJ (fun st => ∃ (u6t : Int) (u6u : List GClause), out1 = .done (u6t, u6u) ∧ st = ⟨[(1, (.v (.int .i64 u6t), []))], [], [(0, [(0, .ex 1000000007 true (List.map GClause.c u6u))])]⟩) ?_ ?_
  · refine Wc.block ?_
    refine Wc.loop (fun m st => ∃ (up : Int) (u9 : Int) (va : List GClause), st = ⟨[(0, (.v (.slx), [(0, .al (.a 0 0) [])])), (1, (.v (.int .i64 up), [])), (5, (.v (.int .i64 u9), []))], [], [(0, [(0, .ex 1000000007 true (List.map GClause.c va))])]⟩ ∧ plaws_markClauseS_L1 k m up u9 va = some out1) ?_ k ⟨_, _, _, rfl, h101⟩
    rintro m st ⟨up, u9, va, rfl, h101⟩
    cases m with
    | zero => exact (onone h101).elim
    | succ m =>
      apply Wc.seq
      apply Wc.seq
      refine Wc.region [{}, {}, { v := some (.int .i64 (va.length : Int)) }] [] [0, 1, 5, 9] [] [0] ⟨[(0, (.v (.slx), [(0, .al (.a 0 0) [])])), (1, (.v (.int .i64 up), [])), (5, (.v (.int .i64 u9), [])), (9, (.v (.bool (decide (u9 < (va.length : Int)))), []))], [], [(0, [(0, .ex 1000000007 true (List.map GClause.c va))])]⟩ _ (by kernel_rfl) (.cons (len_obl GClause.c va) .nil) ?_
      rcases oif h101 with ⟨h102, h101⟩ | ⟨h102, h101⟩
      · refine Wc.condT h102 (by kernel_rfl) ?_
        refine Wc.fix (st' := ⟨[(0, (.v (.slx), [(0, .al (.a 0 0) [])])), (1, (.v (.int .i64 up), [])), (5, (.v (.int .i64 u9), []))], [], [(0, [(0, .ex 1000000007 true (List.map GClause.c va))])]⟩) [] [0, 1, 5] [] [0] (by kernel_rfl) ?_
        refine Wc.skip ?_
        apply Wc.seq
        refine Wc.block ?_
        apply Wc.seq
        obtain ⟨ua, h103, h101⟩ := obind h101
        refine Wc.region [{}, {}, {}, {}, {}, {}, { c := some (List.map GClause.c (va.set ((u9).toNat) (GClause.mk (GTerm.mk up ua.gHead.gName ua.gHead.gNum ua.gHead.gKids) ua.gBody ua.gFile))) }] [] [0, 1, 5] [] [0] ⟨[(0, (.v (.slx), [(0, .al (.a 0 0) [])])), (1, (.v (.int .i64 up), [])), (5, (.v (.int .i64 u9), []))], [], [(0, [(0, .ex 1000000007 true (List.map GClause.c (va.set ((u9).toNat) (GClause.mk (GTerm.mk up ua.gHead.gName ua.gHead.gNum ua.gHead.gKids) ua.gBody ua.gFile))))])]⟩ _ (by kernel_rfl) (.cons (ix_obl (c := GClause.c) GClause.c_len h103) (.cons (mod_obl (off := 0) (new := [.int .i64 up]) (c := GClause.c) (GClause.c_eq ua) (GClause.c_eq (GClause.mk (GTerm.mk up ua.gHead.gName ua.gHead.gNum ua.gHead.gKids) ua.gBody ua.gFile)) (at'_spec h103).2 rfl) (.cons (st_obl (sz := 9) (off := 0) (s := 1) (c := GClause.c) (GClause.c_eq ua) (at'_spec h103).2 rfl (Nat.le_of_ble_eq_true rfl)) .nil))) ?_
        apply Wc.seq
        refine Wc.region [] [] [0, 1, 5] [] [0] ⟨[(0, (.v (.slx), [(0, .al (.a 0 0) [])])), (1, (.v (.int .i64 (wr.i64 (up + 1))), [])), (5, (.v (.int .i64 u9), []))], [], [(0, [(0, .ex 1000000007 true (List.map GClause.c (va.set ((u9).toNat) (GClause.mk (GTerm.mk up ua.gHead.gName ua.gHead.gNum ua.gHead.gKids) ua.gBody ua.gFile))))])]⟩ _ (by kernel_rfl) .nil ?_
        apply Wc.seq
        obtain ⟨vv, h104, h101⟩ := obind h101
        obtain ⟨ub, h105, h101⟩ := obind h101
        refine Wc.region [{}, {}, {}, { r := some (.v (.str vv) []) }, {}, {}, {}, { c := some (List.map GClause.c ((va.set ((u9).toNat) (GClause.mk (GTerm.mk up ua.gHead.gName ua.gHead.gNum ua.gHead.gKids) ua.gBody ua.gFile)).set ((u9).toNat) (GClause.mk (GTerm.mk ub.gHead.gKind vv ub.gHead.gNum ub.gHead.gKids) ub.gBody ub.gFile))) }] [] [0, 1, 5] [] [0] ⟨[(0, (.v (.slx), [(0, .al (.a 0 0) [])])), (1, (.v (.int .i64 (wr.i64 (up + 1))), [])), (5, (.v (.int .i64 u9), []))], [], [(0, [(0, .ex 1000000007 true (List.map GClause.c ((va.set ((u9).toNat) (GClause.mk (GTerm.mk up ua.gHead.gName ua.gHead.gNum ua.gHead.gKids) ua.gBody ua.gFile)).set ((u9).toNat) (GClause.mk (GTerm.mk ub.gHead.gKind vv ub.gHead.gNum ub.gHead.gKids) ub.gBody ub.gFile))))])]⟩ _ (by kernel_rfl) (.cons (claws_markText h104) (.cons (ix_obl (c := GClause.c) GClause.c_len h105) (.cons (mod_obl (off := 1) (new := [.str vv]) (c := GClause.c) (GClause.c_eq ub) (GClause.c_eq (GClause.mk (GTerm.mk ub.gHead.gKind vv ub.gHead.gNum ub.gHead.gKids) ub.gBody ub.gFile)) (at'_spec h105).2 rfl) (.cons (st_obl (sz := 9) (off := 1) (s := 1) (c := GClause.c) (GClause.c_eq ub) (at'_spec h105).2 rfl (Nat.le_of_ble_eq_true rfl)) .nil)))) ?_
        apply Wc.seq
        refine Wc.region [] [] [0, 1, 5] [] [0] ⟨[(0, (.v (.slx), [(0, .al (.a 0 0) [])])), (1, (.v (.int .i64 (wr.i64 ((wr.i64 (up + 1)) + 1))), [])), (5, (.v (.int .i64 u9), []))], [], [(0, [(0, .ex 1000000007 true (List.map GClause.c ((va.set ((u9).toNat) (GClause.mk (GTerm.mk up ua.gHead.gName ua.gHead.gNum ua.gHead.gKids) ua.gBody ua.gFile)).set ((u9).toNat) (GClause.mk (GTerm.mk ub.gHead.gKind vv ub.gHead.gNum ub.gHead.gKids) ub.gBody ub.gFile))))])]⟩ _ (by kernel_rfl) .nil ?_
        apply Wc.seq
        obtain ⟨uc, h106, h101⟩ := obind h101
        refine Wc.region [{}, {}, {}, {}, {}, {}, { c := some (List.map GClause.c (((va.set ((u9).toNat) (GClause.mk (GTerm.mk up ua.gHead.gName ua.gHead.gNum ua.gHead.gKids) ua.gBody ua.gFile)).set ((u9).toNat) (GClause.mk (GTerm.mk ub.gHead.gKind vv ub.gHead.gNum ub.gHead.gKids) ub.gBody ub.gFile)).set ((u9).toNat) (GClause.mk (GTerm.mk uc.gHead.gKind uc.gHead.gName (wr.i64 ((wr.i64 (up + 1)) + 1)) uc.gHead.gKids) uc.gBody uc.gFile))) }] [] [0, 1, 5] [] [0] ⟨[(0, (.v (.slx), [(0, .al (.a 0 0) [])])), (1, (.v (.int .i64 (wr.i64 ((wr.i64 (up + 1)) + 1))), [])), (5, (.v (.int .i64 u9), []))], [], [(0, [(0, .ex 1000000007 true (List.map GClause.c (((va.set ((u9).toNat) (GClause.mk (GTerm.mk up ua.gHead.gName ua.gHead.gNum ua.gHead.gKids) ua.gBody ua.gFile)).set ((u9).toNat) (GClause.mk (GTerm.mk ub.gHead.gKind vv ub.gHead.gNum ub.gHead.gKids) ub.gBody ub.gFile)).set ((u9).toNat) (GClause.mk (GTerm.mk uc.gHead.gKind uc.gHead.gName (wr.i64 ((wr.i64 (up + 1)) + 1)) uc.gHead.gKids) uc.gBody uc.gFile))))])]⟩ _ (by kernel_rfl) (.cons (ix_obl (c := GClause.c) GClause.c_len h106) (.cons (mod_obl (off := 2) (new := [.int .i64 (wr.i64 ((wr.i64 (up + 1)) + 1))]) (c := GClause.c) (GClause.c_eq uc) (GClause.c_eq (GClause.mk (GTerm.mk uc.gHead.gKind uc.gHead.gName (wr.i64 ((wr.i64 (up + 1)) + 1)) uc.gHead.gKids) uc.gBody uc.gFile)) (at'_spec h106).2 rfl) (.cons (st_obl (sz := 9) (off := 2) (s := 1) (c := GClause.c) (GClause.c_eq uc) (at'_spec h106).2 rfl (Nat.le_of_ble_eq_true rfl)) .nil))) ?_
        apply Wc.seq
        refine Wc.region [] [] [0, 1, 5] [] [0] ⟨[(0, (.v (.slx), [(0, .al (.a 0 0) [])])), (1, (.v (.int .i64 (wr.i64 ((wr.i64 ((wr.i64 (up + 1)) + 1)) + 1))), [])), (5, (.v (.int .i64 u9), []))], [], [(0, [(0, .ex 1000000007 true (List.map GClause.c (((va.set ((u9).toNat) (GClause.mk (GTerm.mk up ua.gHead.gName ua.gHead.gNum ua.gHead.gKids) ua.gBody ua.gFile)).set ((u9).toNat) (GClause.mk (GTerm.mk ub.gHead.gKind vv ub.gHead.gNum ub.gHead.gKids) ub.gBody ub.gFile)).set ((u9).toNat) (GClause.mk (GTerm.mk uc.gHead.gKind uc.gHead.gName (wr.i64 ((wr.i64 (up + 1)) + 1)) uc.gHead.gKids) uc.gBody uc.gFile))))])]⟩ _ (by kernel_rfl) .nil ?_
        apply Wc.seq
        obtain ⟨ud, h107, h101⟩ := obind h101
        obtain ⟨uq, h108, h101⟩ := obind h101
        refine Wc.region [{}, {}, {}, {}, {}, { v := some (.slx) }, {}, { c := some (List.map GClause.c ((((va.set ((u9).toNat) (GClause.mk (GTerm.mk up ua.gHead.gName ua.gHead.gNum ua.gHead.gKids) ua.gBody ua.gFile)).set ((u9).toNat) (GClause.mk (GTerm.mk ub.gHead.gKind vv ub.gHead.gNum ub.gHead.gKids) ub.gBody ub.gFile)).set ((u9).toNat) (GClause.mk (GTerm.mk uc.gHead.gKind uc.gHead.gName (wr.i64 ((wr.i64 (up + 1)) + 1)) uc.gHead.gKids) uc.gBody uc.gFile)).set ((u9).toNat) (GClause.mk (GTerm.mk ud.gHead.gKind ud.gHead.gName ud.gHead.gNum uq.1) ud.gBody ud.gFile))), io := [0], r := some (.v (.int .i64 uq.2) []), outs := [(0, .v .undef [(0, .ex 1000000007 true (List.map GTerm.c uq.1))])], ioc := [(0, .ex 1000000007 true (List.map GTerm.c ud.gHead.gKids))] }] [] [0, 1, 5] [] [0] ⟨[(0, (.v (.slx), [(0, .al (.a 0 0) [])])), (1, (.v (.int .i64 uq.2), [])), (5, (.v (.int .i64 u9), []))], [], [(0, [(0, .ex 1000000007 true (List.map GClause.c ((((va.set ((u9).toNat) (GClause.mk (GTerm.mk up ua.gHead.gName ua.gHead.gNum ua.gHead.gKids) ua.gBody ua.gFile)).set ((u9).toNat) (GClause.mk (GTerm.mk ub.gHead.gKind vv ub.gHead.gNum ub.gHead.gKids) ub.gBody ub.gFile)).set ((u9).toNat) (GClause.mk (GTerm.mk uc.gHead.gKind uc.gHead.gName (wr.i64 ((wr.i64 (up + 1)) + 1)) uc.gHead.gKids) uc.gBody uc.gFile)).set ((u9).toNat) (GClause.mk (GTerm.mk ud.gHead.gKind ud.gHead.gName ud.gHead.gNum uq.1) ud.gBody ud.gFile))))])]⟩ _ (by kernel_rfl) (.cons (ix_obl (c := GClause.c) GClause.c_len h107) (.cons (el_oblD (sz := 9) (off := 3) (s := 1) (ag := false) (v := .slx) (c := GClause.c) (GClause.c_eq ud) (at'_spec h107).2 rfl (Nat.le_of_ble_eq_true rfl) rfl) (.cons (own_obl (own := [(0, .al (.a 0 0) [(((u9).toNat), 9, 3)])]) (p := .a 0 0) (m := (u9).toNat) (sz := 9) (off := 3) (js := [0]) rfl) (.cons (seg_obl (sz := 9) (off := 3) (n := [.sl (List.map GTerm.c ud.gHead.gKids)]) (c := GClause.c) (GClause.c_eq ud) (at'_spec h107).2 rfl (Nat.le_of_ble_eq_true rfl) rfl) (.cons (mod_obl (off := 3) (new := [.sl (List.map GTerm.c uq.1)]) (c := GClause.c) (GClause.c_eq ud) (GClause.c_eq (GClause.mk (GTerm.mk ud.gHead.gKind ud.gHead.gName ud.gHead.gNum uq.1) ud.gBody ud.gFile)) (at'_spec h107).2 rfl) (.cons (FnO.any (args := [.io (.slx) [(0, .ex 1000000007 true (List.map GTerm.c ud.gHead.gKids))], .v (.int .i64 (wr.i64 ((wr.i64 ((wr.i64 (up + 1)) + 1)) + 1))) []]) (claws_markTermS h108)) .nil)))))) ?_
        apply Wc.seq
        obtain ⟨ui, h109, h101⟩ := obind h101
        refine Wc.region [{}, {}, {}, {}, {}, {}, { c := some (List.map GClause.c (((((va.set ((u9).toNat) (GClause.mk (GTerm.mk up ua.gHead.gName ua.gHead.gNum ua.gHead.gKids) ua.gBody ua.gFile)).set ((u9).toNat) (GClause.mk (GTerm.mk ub.gHead.gKind vv ub.gHead.gNum ub.gHead.gKids) ub.gBody ub.gFile)).set ((u9).toNat) (GClause.mk (GTerm.mk uc.gHead.gKind uc.gHead.gName (wr.i64 ((wr.i64 (up + 1)) + 1)) uc.gHead.gKids) uc.gBody uc.gFile)).set ((u9).toNat) (GClause.mk (GTerm.mk ud.gHead.gKind ud.gHead.gName ud.gHead.gNum uq.1) ud.gBody ud.gFile)).set ((u9).toNat) (GClause.mk ui.gHead (GTerm.mk uq.2 ui.gBody.gName ui.gBody.gNum ui.gBody.gKids) ui.gFile))) }] [] [0, 1, 5] [] [0] ⟨[(0, (.v (.slx), [(0, .al (.a 0 0) [])])), (1, (.v (.int .i64 uq.2), [])), (5, (.v (.int .i64 u9), []))], [], [(0, [(0, .ex 1000000007 true (List.map GClause.c (((((va.set ((u9).toNat) (GClause.mk (GTerm.mk up ua.gHead.gName ua.gHead.gNum ua.gHead.gKids) ua.gBody ua.gFile)).set ((u9).toNat) (GClause.mk (GTerm.mk ub.gHead.gKind vv ub.gHead.gNum ub.gHead.gKids) ub.gBody ub.gFile)).set ((u9).toNat) (GClause.mk (GTerm.mk uc.gHead.gKind uc.gHead.gName (wr.i64 ((wr.i64 (up + 1)) + 1)) uc.gHead.gKids) uc.gBody uc.gFile)).set ((u9).toNat) (GClause.mk (GTerm.mk ud.gHead.gKind ud.gHead.gName ud.gHead.gNum uq.1) ud.gBody ud.gFile)).set ((u9).toNat) (GClause.mk ui.gHead (GTerm.mk uq.2 ui.gBody.gName ui.gBody.gNum ui.gBody.gKids) ui.gFile))))])]⟩ _ (by kernel_rfl) (.cons (ix_obl (c := GClause.c) GClause.c_len h109) (.cons (mod_obl (off := 4) (new := [.int .i64 uq.2]) (c := GClause.c) (GClause.c_eq ui) (GClause.c_eq (GClause.mk ui.gHead (GTerm.mk uq.2 ui.gBody.gName ui.gBody.gNum ui.gBody.gKids) ui.gFile)) (at'_spec h109).2 rfl) (.cons (st_obl (sz := 9) (off := 4) (s := 1) (c := GClause.c) (GClause.c_eq ui) (at'_spec h109).2 rfl (Nat.le_of_ble_eq_true rfl)) .nil))) ?_
        apply Wc.seq
        refine Wc.region [] [] [0, 1, 5] [] [0] ⟨[(0, (.v (.slx), [(0, .al (.a 0 0) [])])), (1, (.v (.int .i64 (wr.i64 (uq.2 + 1))), [])), (5, (.v (.int .i64 u9), []))], [], [(0, [(0, .ex 1000000007 true (List.map GClause.c (((((va.set ((u9).toNat) (GClause.mk (GTerm.mk up ua.gHead.gName ua.gHead.gNum ua.gHead.gKids) ua.gBody ua.gFile)).set ((u9).toNat) (GClause.mk (GTerm.mk ub.gHead.gKind vv ub.gHead.gNum ub.gHead.gKids) ub.gBody ub.gFile)).set ((u9).toNat) (GClause.mk (GTerm.mk uc.gHead.gKind uc.gHead.gName (wr.i64 ((wr.i64 (up + 1)) + 1)) uc.gHead.gKids) uc.gBody uc.gFile)).set ((u9).toNat) (GClause.mk (GTerm.mk ud.gHead.gKind ud.gHead.gName ud.gHead.gNum uq.1) ud.gBody ud.gFile)).set ((u9).toNat) (GClause.mk ui.gHead (GTerm.mk uq.2 ui.gBody.gName ui.gBody.gNum ui.gBody.gKids) ui.gFile))))])]⟩ _ (by kernel_rfl) .nil ?_
        apply Wc.seq
        obtain ⟨u0w, h110, h101⟩ := obind h101
        obtain ⟨uo, h111, h101⟩ := obind h101
        refine Wc.region [{}, {}, {}, { r := some (.v (.str u0w) []) }, {}, {}, {}, { c := some (List.map GClause.c ((((((va.set ((u9).toNat) (GClause.mk (GTerm.mk up ua.gHead.gName ua.gHead.gNum ua.gHead.gKids) ua.gBody ua.gFile)).set ((u9).toNat) (GClause.mk (GTerm.mk ub.gHead.gKind vv ub.gHead.gNum ub.gHead.gKids) ub.gBody ub.gFile)).set ((u9).toNat) (GClause.mk (GTerm.mk uc.gHead.gKind uc.gHead.gName (wr.i64 ((wr.i64 (up + 1)) + 1)) uc.gHead.gKids) uc.gBody uc.gFile)).set ((u9).toNat) (GClause.mk (GTerm.mk ud.gHead.gKind ud.gHead.gName ud.gHead.gNum uq.1) ud.gBody ud.gFile)).set ((u9).toNat) (GClause.mk ui.gHead (GTerm.mk uq.2 ui.gBody.gName ui.gBody.gNum ui.gBody.gKids) ui.gFile)).set ((u9).toNat) (GClause.mk uo.gHead (GTerm.mk uo.gBody.gKind u0w uo.gBody.gNum uo.gBody.gKids) uo.gFile))) }] [] [0, 1, 5] [] [0] ⟨[(0, (.v (.slx), [(0, .al (.a 0 0) [])])), (1, (.v (.int .i64 (wr.i64 (uq.2 + 1))), [])), (5, (.v (.int .i64 u9), []))], [], [(0, [(0, .ex 1000000007 true (List.map GClause.c ((((((va.set ((u9).toNat) (GClause.mk (GTerm.mk up ua.gHead.gName ua.gHead.gNum ua.gHead.gKids) ua.gBody ua.gFile)).set ((u9).toNat) (GClause.mk (GTerm.mk ub.gHead.gKind vv ub.gHead.gNum ub.gHead.gKids) ub.gBody ub.gFile)).set ((u9).toNat) (GClause.mk (GTerm.mk uc.gHead.gKind uc.gHead.gName (wr.i64 ((wr.i64 (up + 1)) + 1)) uc.gHead.gKids) uc.gBody uc.gFile)).set ((u9).toNat) (GClause.mk (GTerm.mk ud.gHead.gKind ud.gHead.gName ud.gHead.gNum uq.1) ud.gBody ud.gFile)).set ((u9).toNat) (GClause.mk ui.gHead (GTerm.mk uq.2 ui.gBody.gName ui.gBody.gNum ui.gBody.gKids) ui.gFile)).set ((u9).toNat) (GClause.mk uo.gHead (GTerm.mk uo.gBody.gKind u0w uo.gBody.gNum uo.gBody.gKids) uo.gFile))))])]⟩ _ (by kernel_rfl) (.cons (claws_markText h110) (.cons (ix_obl (c := GClause.c) GClause.c_len h111) (.cons (mod_obl (off := 5) (new := [.str u0w]) (c := GClause.c) (GClause.c_eq uo) (GClause.c_eq (GClause.mk uo.gHead (GTerm.mk uo.gBody.gKind u0w uo.gBody.gNum uo.gBody.gKids) uo.gFile)) (at'_spec h111).2 rfl) (.cons (st_obl (sz := 9) (off := 5) (s := 1) (c := GClause.c) (GClause.c_eq uo) (at'_spec h111).2 rfl (Nat.le_of_ble_eq_true rfl)) .nil)))) ?_
        apply Wc.seq
        refine Wc.region [] [] [0, 1, 5] [] [0] ⟨[(0, (.v (.slx), [(0, .al (.a 0 0) [])])), (1, (.v (.int .i64 (wr.i64 ((wr.i64 (uq.2 + 1)) + 1))), [])), (5, (.v (.int .i64 u9), []))], [], [(0, [(0, .ex 1000000007 true (List.map GClause.c ((((((va.set ((u9).toNat) (GClause.mk (GTerm.mk up ua.gHead.gName ua.gHead.gNum ua.gHead.gKids) ua.gBody ua.gFile)).set ((u9).toNat) (GClause.mk (GTerm.mk ub.gHead.gKind vv ub.gHead.gNum ub.gHead.gKids) ub.gBody ub.gFile)).set ((u9).toNat) (GClause.mk (GTerm.mk uc.gHead.gKind uc.gHead.gName (wr.i64 ((wr.i64 (up + 1)) + 1)) uc.gHead.gKids) uc.gBody uc.gFile)).set ((u9).toNat) (GClause.mk (GTerm.mk ud.gHead.gKind ud.gHead.gName ud.gHead.gNum uq.1) ud.gBody ud.gFile)).set ((u9).toNat) (GClause.mk ui.gHead (GTerm.mk uq.2 ui.gBody.gName ui.gBody.gNum ui.gBody.gKids) ui.gFile)).set ((u9).toNat) (GClause.mk uo.gHead (GTerm.mk uo.gBody.gKind u0w uo.gBody.gNum uo.gBody.gKids) uo.gFile))))])]⟩ _ (by kernel_rfl) .nil ?_
        apply Wc.seq
        obtain ⟨uv, h112, h101⟩ := obind h101
        refine Wc.region [{}, {}, {}, {}, {}, {}, { c := some (List.map GClause.c (((((((va.set ((u9).toNat) (GClause.mk (GTerm.mk up ua.gHead.gName ua.gHead.gNum ua.gHead.gKids) ua.gBody ua.gFile)).set ((u9).toNat) (GClause.mk (GTerm.mk ub.gHead.gKind vv ub.gHead.gNum ub.gHead.gKids) ub.gBody ub.gFile)).set ((u9).toNat) (GClause.mk (GTerm.mk uc.gHead.gKind uc.gHead.gName (wr.i64 ((wr.i64 (up + 1)) + 1)) uc.gHead.gKids) uc.gBody uc.gFile)).set ((u9).toNat) (GClause.mk (GTerm.mk ud.gHead.gKind ud.gHead.gName ud.gHead.gNum uq.1) ud.gBody ud.gFile)).set ((u9).toNat) (GClause.mk ui.gHead (GTerm.mk uq.2 ui.gBody.gName ui.gBody.gNum ui.gBody.gKids) ui.gFile)).set ((u9).toNat) (GClause.mk uo.gHead (GTerm.mk uo.gBody.gKind u0w uo.gBody.gNum uo.gBody.gKids) uo.gFile)).set ((u9).toNat) (GClause.mk uv.gHead (GTerm.mk uv.gBody.gKind uv.gBody.gName (wr.i64 ((wr.i64 (uq.2 + 1)) + 1)) uv.gBody.gKids) uv.gFile))) }] [] [0, 1, 5] [] [0] ⟨[(0, (.v (.slx), [(0, .al (.a 0 0) [])])), (1, (.v (.int .i64 (wr.i64 ((wr.i64 (uq.2 + 1)) + 1))), [])), (5, (.v (.int .i64 u9), []))], [], [(0, [(0, .ex 1000000007 true (List.map GClause.c (((((((va.set ((u9).toNat) (GClause.mk (GTerm.mk up ua.gHead.gName ua.gHead.gNum ua.gHead.gKids) ua.gBody ua.gFile)).set ((u9).toNat) (GClause.mk (GTerm.mk ub.gHead.gKind vv ub.gHead.gNum ub.gHead.gKids) ub.gBody ub.gFile)).set ((u9).toNat) (GClause.mk (GTerm.mk uc.gHead.gKind uc.gHead.gName (wr.i64 ((wr.i64 (up + 1)) + 1)) uc.gHead.gKids) uc.gBody uc.gFile)).set ((u9).toNat) (GClause.mk (GTerm.mk ud.gHead.gKind ud.gHead.gName ud.gHead.gNum uq.1) ud.gBody ud.gFile)).set ((u9).toNat) (GClause.mk ui.gHead (GTerm.mk uq.2 ui.gBody.gName ui.gBody.gNum ui.gBody.gKids) ui.gFile)).set ((u9).toNat) (GClause.mk uo.gHead (GTerm.mk uo.gBody.gKind u0w uo.gBody.gNum uo.gBody.gKids) uo.gFile)).set ((u9).toNat) (GClause.mk uv.gHead (GTerm.mk uv.gBody.gKind uv.gBody.gName (wr.i64 ((wr.i64 (uq.2 + 1)) + 1)) uv.gBody.gKids) uv.gFile))))])]⟩ _ (by kernel_rfl) (.cons (ix_obl (c := GClause.c) GClause.c_len h112) (.cons (mod_obl (off := 6) (new := [.int .i64 (wr.i64 ((wr.i64 (uq.2 + 1)) + 1))]) (c := GClause.c) (GClause.c_eq uv) (GClause.c_eq (GClause.mk uv.gHead (GTerm.mk uv.gBody.gKind uv.gBody.gName (wr.i64 ((wr.i64 (uq.2 + 1)) + 1)) uv.gBody.gKids) uv.gFile)) (at'_spec h112).2 rfl) (.cons (st_obl (sz := 9) (off := 6) (s := 1) (c := GClause.c) (GClause.c_eq uv) (at'_spec h112).2 rfl (Nat.le_of_ble_eq_true rfl)) .nil))) ?_
        apply Wc.seq
        refine Wc.region [] [] [0, 1, 5] [] [0] ⟨[(0, (.v (.slx), [(0, .al (.a 0 0) [])])), (1, (.v (.int .i64 (wr.i64 ((wr.i64 ((wr.i64 (uq.2 + 1)) + 1)) + 1))), [])), (5, (.v (.int .i64 u9), []))], [], [(0, [(0, .ex 1000000007 true (List.map GClause.c (((((((va.set ((u9).toNat) (GClause.mk (GTerm.mk up ua.gHead.gName ua.gHead.gNum ua.gHead.gKids) ua.gBody ua.gFile)).set ((u9).toNat) (GClause.mk (GTerm.mk ub.gHead.gKind vv ub.gHead.gNum ub.gHead.gKids) ub.gBody ub.gFile)).set ((u9).toNat) (GClause.mk (GTerm.mk uc.gHead.gKind uc.gHead.gName (wr.i64 ((wr.i64 (up + 1)) + 1)) uc.gHead.gKids) uc.gBody uc.gFile)).set ((u9).toNat) (GClause.mk (GTerm.mk ud.gHead.gKind ud.gHead.gName ud.gHead.gNum uq.1) ud.gBody ud.gFile)).set ((u9).toNat) (GClause.mk ui.gHead (GTerm.mk uq.2 ui.gBody.gName ui.gBody.gNum ui.gBody.gKids) ui.gFile)).set ((u9).toNat) (GClause.mk uo.gHead (GTerm.mk uo.gBody.gKind u0w uo.gBody.gNum uo.gBody.gKids) uo.gFile)).set ((u9).toNat) (GClause.mk uv.gHead (GTerm.mk uv.gBody.gKind uv.gBody.gName (wr.i64 ((wr.i64 (uq.2 + 1)) + 1)) uv.gBody.gKids) uv.gFile))))])]⟩ _ (by kernel_rfl) .nil ?_
        apply Wc.seq
        obtain ⟨v6, h113, h101⟩ := obind h101
        obtain ⟨u16, h114, h101⟩ := obind h101
        refine Wc.region [{}, {}, {}, {}, {}, { v := some (.slx) }, {}, { c := some (List.map GClause.c ((((((((va.set ((u9).toNat) (GClause.mk (GTerm.mk up ua.gHead.gName ua.gHead.gNum ua.gHead.gKids) ua.gBody ua.gFile)).set ((u9).toNat) (GClause.mk (GTerm.mk ub.gHead.gKind vv ub.gHead.gNum ub.gHead.gKids) ub.gBody ub.gFile)).set ((u9).toNat) (GClause.mk (GTerm.mk uc.gHead.gKind uc.gHead.gName (wr.i64 ((wr.i64 (up + 1)) + 1)) uc.gHead.gKids) uc.gBody uc.gFile)).set ((u9).toNat) (GClause.mk (GTerm.mk ud.gHead.gKind ud.gHead.gName ud.gHead.gNum uq.1) ud.gBody ud.gFile)).set ((u9).toNat) (GClause.mk ui.gHead (GTerm.mk uq.2 ui.gBody.gName ui.gBody.gNum ui.gBody.gKids) ui.gFile)).set ((u9).toNat) (GClause.mk uo.gHead (GTerm.mk uo.gBody.gKind u0w uo.gBody.gNum uo.gBody.gKids) uo.gFile)).set ((u9).toNat) (GClause.mk uv.gHead (GTerm.mk uv.gBody.gKind uv.gBody.gName (wr.i64 ((wr.i64 (uq.2 + 1)) + 1)) uv.gBody.gKids) uv.gFile)).set ((u9).toNat) (GClause.mk v6.gHead (GTerm.mk v6.gBody.gKind v6.gBody.gName v6.gBody.gNum u16.1) v6.gFile))), io := [0], r := some (.v (.int .i64 u16.2) []), outs := [(0, .v .undef [(0, .ex 1000000007 true (List.map GTerm.c u16.1))])], ioc := [(0, .ex 1000000007 true (List.map GTerm.c v6.gBody.gKids))] }] [] [0, 1, 5] [] [0] ⟨[(0, (.v (.slx), [(0, .al (.a 0 0) [])])), (1, (.v (.int .i64 u16.2), [])), (5, (.v (.int .i64 u9), []))], [], [(0, [(0, .ex 1000000007 true (List.map GClause.c ((((((((va.set ((u9).toNat) (GClause.mk (GTerm.mk up ua.gHead.gName ua.gHead.gNum ua.gHead.gKids) ua.gBody ua.gFile)).set ((u9).toNat) (GClause.mk (GTerm.mk ub.gHead.gKind vv ub.gHead.gNum ub.gHead.gKids) ub.gBody ub.gFile)).set ((u9).toNat) (GClause.mk (GTerm.mk uc.gHead.gKind uc.gHead.gName (wr.i64 ((wr.i64 (up + 1)) + 1)) uc.gHead.gKids) uc.gBody uc.gFile)).set ((u9).toNat) (GClause.mk (GTerm.mk ud.gHead.gKind ud.gHead.gName ud.gHead.gNum uq.1) ud.gBody ud.gFile)).set ((u9).toNat) (GClause.mk ui.gHead (GTerm.mk uq.2 ui.gBody.gName ui.gBody.gNum ui.gBody.gKids) ui.gFile)).set ((u9).toNat) (GClause.mk uo.gHead (GTerm.mk uo.gBody.gKind u0w uo.gBody.gNum uo.gBody.gKids) uo.gFile)).set ((u9).toNat) (GClause.mk uv.gHead (GTerm.mk uv.gBody.gKind uv.gBody.gName (wr.i64 ((wr.i64 (uq.2 + 1)) + 1)) uv.gBody.gKids) uv.gFile)).set ((u9).toNat) (GClause.mk v6.gHead (GTerm.mk v6.gBody.gKind v6.gBody.gName v6.gBody.gNum u16.1) v6.gFile))))])]⟩ _ (by kernel_rfl) (.cons (ix_obl (c := GClause.c) GClause.c_len h113) (.cons (el_oblD (sz := 9) (off := 7) (s := 1) (ag := false) (v := .slx) (c := GClause.c) (GClause.c_eq v6) (at'_spec h113).2 rfl (Nat.le_of_ble_eq_true rfl) rfl) (.cons (own_obl (own := [(0, .al (.a 0 0) [(((u9).toNat), 9, 7)])]) (p := .a 0 0) (m := (u9).toNat) (sz := 9) (off := 7) (js := [0]) rfl) (.cons (seg_obl (sz := 9) (off := 7) (n := [.sl (List.map GTerm.c v6.gBody.gKids)]) (c := GClause.c) (GClause.c_eq v6) (at'_spec h113).2 rfl (Nat.le_of_ble_eq_true rfl) rfl) (.cons (mod_obl (off := 7) (new := [.sl (List.map GTerm.c u16.1)]) (c := GClause.c) (GClause.c_eq v6) (GClause.c_eq (GClause.mk v6.gHead (GTerm.mk v6.gBody.gKind v6.gBody.gName v6.gBody.gNum u16.1) v6.gFile)) (at'_spec h113).2 rfl) (.cons (FnO.any (args := [.io (.slx) [(0, .ex 1000000007 true (List.map GTerm.c v6.gBody.gKids))], .v (.int .i64 (wr.i64 ((wr.i64 ((wr.i64 (uq.2 + 1)) + 1)) + 1))) []]) (claws_markTermS h114)) .nil)))))) ?_
        apply Wc.seq
        obtain ⟨u4y, h115, h101⟩ := obind h101
        obtain ⟨u26, h116, h101⟩ := obind h101
        refine Wc.region [{}, {}, {}, { r := some (.v (.str u4y) []) }, {}, {}, { c := some (List.map GClause.c (((((((((va.set ((u9).toNat) (GClause.mk (GTerm.mk up ua.gHead.gName ua.gHead.gNum ua.gHead.gKids) ua.gBody ua.gFile)).set ((u9).toNat) (GClause.mk (GTerm.mk ub.gHead.gKind vv ub.gHead.gNum ub.gHead.gKids) ub.gBody ub.gFile)).set ((u9).toNat) (GClause.mk (GTerm.mk uc.gHead.gKind uc.gHead.gName (wr.i64 ((wr.i64 (up + 1)) + 1)) uc.gHead.gKids) uc.gBody uc.gFile)).set ((u9).toNat) (GClause.mk (GTerm.mk ud.gHead.gKind ud.gHead.gName ud.gHead.gNum uq.1) ud.gBody ud.gFile)).set ((u9).toNat) (GClause.mk ui.gHead (GTerm.mk uq.2 ui.gBody.gName ui.gBody.gNum ui.gBody.gKids) ui.gFile)).set ((u9).toNat) (GClause.mk uo.gHead (GTerm.mk uo.gBody.gKind u0w uo.gBody.gNum uo.gBody.gKids) uo.gFile)).set ((u9).toNat) (GClause.mk uv.gHead (GTerm.mk uv.gBody.gKind uv.gBody.gName (wr.i64 ((wr.i64 (uq.2 + 1)) + 1)) uv.gBody.gKids) uv.gFile)).set ((u9).toNat) (GClause.mk v6.gHead (GTerm.mk v6.gBody.gKind v6.gBody.gName v6.gBody.gNum u16.1) v6.gFile)).set ((u9).toNat) (GClause.mk u26.gHead u26.gBody u4y))) }] [] [0, 1, 5] [] [0] ⟨[(0, (.v (.slx), [(0, .al (.a 0 0) [])])), (1, (.v (.int .i64 u16.2), [])), (5, (.v (.int .i64 u9), []))], [], [(0, [(0, .ex 1000000007 true (List.map GClause.c (((((((((va.set ((u9).toNat) (GClause.mk (GTerm.mk up ua.gHead.gName ua.gHead.gNum ua.gHead.gKids) ua.gBody ua.gFile)).set ((u9).toNat) (GClause.mk (GTerm.mk ub.gHead.gKind vv ub.gHead.gNum ub.gHead.gKids) ub.gBody ub.gFile)).set ((u9).toNat) (GClause.mk (GTerm.mk uc.gHead.gKind uc.gHead.gName (wr.i64 ((wr.i64 (up + 1)) + 1)) uc.gHead.gKids) uc.gBody uc.gFile)).set ((u9).toNat) (GClause.mk (GTerm.mk ud.gHead.gKind ud.gHead.gName ud.gHead.gNum uq.1) ud.gBody ud.gFile)).set ((u9).toNat) (GClause.mk ui.gHead (GTerm.mk uq.2 ui.gBody.gName ui.gBody.gNum ui.gBody.gKids) ui.gFile)).set ((u9).toNat) (GClause.mk uo.gHead (GTerm.mk uo.gBody.gKind u0w uo.gBody.gNum uo.gBody.gKids) uo.gFile)).set ((u9).toNat) (GClause.mk uv.gHead (GTerm.mk uv.gBody.gKind uv.gBody.gName (wr.i64 ((wr.i64 (uq.2 + 1)) + 1)) uv.gBody.gKids) uv.gFile)).set ((u9).toNat) (GClause.mk v6.gHead (GTerm.mk v6.gBody.gKind v6.gBody.gName v6.gBody.gNum u16.1) v6.gFile)).set ((u9).toNat) (GClause.mk u26.gHead u26.gBody u4y))))])]⟩ _ (by kernel_rfl) (.cons (claws_markText h115) (.cons (ix_obl (c := GClause.c) GClause.c_len h116) (.cons (mod_obl (off := 8) (new := [.str u4y]) (c := GClause.c) (GClause.c_eq u26) (GClause.c_eq (GClause.mk u26.gHead u26.gBody u4y)) (at'_spec h116).2 rfl) (.cons (st_obl (sz := 9) (off := 8) (s := 1) (c := GClause.c) (GClause.c_eq u26) (at'_spec h116).2 rfl (Nat.le_of_ble_eq_true rfl)) .nil)))) ?_
        refine Wc.region [] [] [0, 1, 5] [] [0] ⟨[(0, (.v (.slx), [(0, .al (.a 0 0) [])])), (1, (.v (.int .i64 (wr.i64 (u16.2 + 1))), [])), (5, (.v (.int .i64 u9), []))], [], [(0, [(0, .ex 1000000007 true (List.map GClause.c (((((((((va.set ((u9).toNat) (GClause.mk (GTerm.mk up ua.gHead.gName ua.gHead.gNum ua.gHead.gKids) ua.gBody ua.gFile)).set ((u9).toNat) (GClause.mk (GTerm.mk ub.gHead.gKind vv ub.gHead.gNum ub.gHead.gKids) ub.gBody ub.gFile)).set ((u9).toNat) (GClause.mk (GTerm.mk uc.gHead.gKind uc.gHead.gName (wr.i64 ((wr.i64 (up + 1)) + 1)) uc.gHead.gKids) uc.gBody uc.gFile)).set ((u9).toNat) (GClause.mk (GTerm.mk ud.gHead.gKind ud.gHead.gName ud.gHead.gNum uq.1) ud.gBody ud.gFile)).set ((u9).toNat) (GClause.mk ui.gHead (GTerm.mk uq.2 ui.gBody.gName ui.gBody.gNum ui.gBody.gKids) ui.gFile)).set ((u9).toNat) (GClause.mk uo.gHead (GTerm.mk uo.gBody.gKind u0w uo.gBody.gNum uo.gBody.gKids) uo.gFile)).set ((u9).toNat) (GClause.mk uv.gHead (GTerm.mk uv.gBody.gKind uv.gBody.gName (wr.i64 ((wr.i64 (uq.2 + 1)) + 1)) uv.gBody.gKids) uv.gFile)).set ((u9).toNat) (GClause.mk v6.gHead (GTerm.mk v6.gBody.gKind v6.gBody.gName v6.gBody.gNum u16.1) v6.gFile)).set ((u9).toNat) (GClause.mk u26.gHead u26.gBody u4y))))])]⟩ _ (by kernel_rfl) .nil ?_
        refine Wc.region [] [] [0, 1, 5] [] [0] ⟨[(0, (.v (.slx), [(0, .al (.a 0 0) [])])), (1, (.v (.int .i64 (wr.i64 (u16.2 + 1))), [])), (5, (.v (.int .i64 (wr.i64 (u9 + 1))), []))], [], [(0, [(0, .ex 1000000007 true (List.map GClause.c (((((((((va.set ((u9).toNat) (GClause.mk (GTerm.mk up ua.gHead.gName ua.gHead.gNum ua.gHead.gKids) ua.gBody ua.gFile)).set ((u9).toNat) (GClause.mk (GTerm.mk ub.gHead.gKind vv ub.gHead.gNum ub.gHead.gKids) ub.gBody ub.gFile)).set ((u9).toNat) (GClause.mk (GTerm.mk uc.gHead.gKind uc.gHead.gName (wr.i64 ((wr.i64 (up + 1)) + 1)) uc.gHead.gKids) uc.gBody uc.gFile)).set ((u9).toNat) (GClause.mk (GTerm.mk ud.gHead.gKind ud.gHead.gName ud.gHead.gNum uq.1) ud.gBody ud.gFile)).set ((u9).toNat) (GClause.mk ui.gHead (GTerm.mk uq.2 ui.gBody.gName ui.gBody.gNum ui.gBody.gKids) ui.gFile)).set ((u9).toNat) (GClause.mk uo.gHead (GTerm.mk uo.gBody.gKind u0w uo.gBody.gNum uo.gBody.gKids) uo.gFile)).set ((u9).toNat) (GClause.mk uv.gHead (GTerm.mk uv.gBody.gKind uv.gBody.gName (wr.i64 ((wr.i64 (uq.2 + 1)) + 1)) uv.gBody.gKids) uv.gFile)).set ((u9).toNat) (GClause.mk v6.gHead (GTerm.mk v6.gBody.gKind v6.gBody.gName v6.gBody.gNum u16.1) v6.gFile)).set ((u9).toNat) (GClause.mk u26.gHead u26.gBody u4y))))])]⟩ _ (by kernel_rfl) .nil ?_
        exact ⟨_, Nat.lt_succ_self _, _, _, _, rfl, h101⟩
      · refine Wc.condF h102 (by kernel_rfl) ?_
        refine Wc.fix (st' := ⟨[(1, (.v (.int .i64 up), []))], [], [(0, [(0, .ex 1000000007 true (List.map GClause.c va))])]⟩) [] [1] [] [0] (by kernel_rfl) ?_
        refine Wc.exit ?_
        obtain rfl := Option.some.inj h101
        exact ⟨_, _, rfl, rfl⟩
  · rintro st ⟨u6t, u6u, rfl, rfl⟩
    apply Wc.seq
    refine Wc.region [] [] [4] [] [0] ⟨[(4, (.v (.int .i64 u6t), []))], [], [(0, [(0, .ex 1000000007 true (List.map GClause.c u6u))])]⟩ _ (by kernel_rfl) .nil ?_
    refine Wc.ret ?_
    obtain rfl := Option.some.inj h
    exact ⟨.inl rfl, by kernel_rfl, by kernel_rfl⟩

def plaws_markStringS_L1 (k : Nat) : Nat → Int → Int → (List ByteArray) → Option (Out ((List ByteArray) × Int) (Int × (List ByteArray)))
  | 0, _, _, _ => none
  | m + 1, u36, u19, u1a =>
    if (decide (u19 < (u1a.length : Int))) = true then
      (plaws_markText k u36).bind fun u5t =>
      (at' u1a u19).bind fun uc9 =>
      plaws_markStringS_L1 k m (wr.i64 (u36 + 1)) (wr.i64 (u19 + 1)) (u1a.set ((u19).toNat) u5t)
    else
      some (.done (u36, u1a))
def plaws_markStringS (k : Nat) (u6v : List ByteArray) (u6w : Int) : Option ((List ByteArray) × Int) :=
  (plaws_markStringS_L1 k k u6w 0 u6v).bind fun out1 => match out1 with
  | .ret r => some r
  | .done (u6x, u6y) =>
    some (u6y, u6x)
theorem claws_markStringS {k : Nat} {u6v : List ByteArray} {u6w : Int} {r : (List ByteArray) × Int} (h : plaws_markStringS k u6v u6w = some r) : FnO Try.prog 60 [.io (.slx) [(0, .ex 1000000007 true (List.map cS u6v))], .v (.int .i64 u6w) []] (.v (.int .i64 r.2) []) [(0, .v .undef [(0, .ex 1000000007 true (List.map cS r.1))])] := by
  refine FnO.of Try.func60 (rfl : Try.f60.body = some _) (Nat.le_of_ble_eq_true (by kernel_rfl)) (Nat.le_of_ble_eq_true (by kernel_rfl)) ?_
  intro w0 X0 Fin pv0 pb
  unfold plaws_markStringS at h
  apply Wc.seq
  refine Wc.region [] [] [0, 1] [] [0] ⟨[(0, (.v (.slx), [(0, .al (.a 0 0) [])])), (1, (.v (.int .i64 u6w), []))], [], [(0, [(0, .ex 1000000007 true (List.map cS u6v))])]⟩ _ (by kernel_rfl) .nil ?_
  apply Wc.seq
  apply Wc.seq
  refine Wc.region [] [] [0, 1, 5] [] [0] ⟨[(0, (.v (.slx), [(0, .al (.a 0 0) [])])), (1, (.v (.int .i64 u6w), [])), (5, (.v (.int .i64 0), []))], [], [(0, [(0, .ex 1000000007 true (List.map cS u6v))])]⟩ _ (by kernel_rfl) .nil ?_
  obtain ⟨out1, h117, h⟩ := obind h
  refine Wc.lastJ (fun st => ∃ (u6x : Int) (u6y : List ByteArray), out1 = .done (u6x, u6y) ∧ st = ⟨[(1, (.v (.int .i64 u6x), []))], [], [(0, [(0, .ex 1000000007 true (List.map cS u6y))])]⟩) ?_ ?_
  · refine Wc.block ?_
    refine Wc.loop (fun m st => ∃ (u36 : Int) (u19 : Int) (u1a : List ByteArray), st = ⟨[(0, (.v (.slx), [(0, .al (.a 0 0) [])])), (1, (.v (.int .i64 u36), [])), (5, (.v (.int .i64 u19), []))], [], [(0, [(0, .ex 1000000007 true (List.map cS u1a))])]⟩ ∧ plaws_markStringS_L1 k m u36 u19 u1a = some out1) ?_ k ⟨_, _, _, rfl, h117⟩
    rintro m st ⟨u36, u19, u1a, rfl, h117⟩
    cases m with
    | zero => exact (onone h117).elim
    | succ m =>
      apply Wc.seq
      apply Wc.seq
      refine Wc.region [{}, {}, { v := some (.int .i64 (u1a.length : Int)) }] [] [0, 1, 5, 9] [] [0] ⟨[(0, (.v (.slx), [(0, .al (.a 0 0) [])])), (1, (.v (.int .i64 u36), [])), (5, (.v (.int .i64 u19), [])), (9, (.v (.bool (decide (u19 < (u1a.length : Int)))), []))], [], [(0, [(0, .ex 1000000007 true (List.map cS u1a))])]⟩ _ (by kernel_rfl) (.cons (len_obl cS u1a) .nil) ?_
      rcases oif h117 with ⟨h118, h117⟩ | ⟨h118, h117⟩
      · refine Wc.condT h118 (by kernel_rfl) ?_
        refine Wc.fix (st' := ⟨[(0, (.v (.slx), [(0, .al (.a 0 0) [])])), (1, (.v (.int .i64 u36), [])), (5, (.v (.int .i64 u19), []))], [], [(0, [(0, .ex 1000000007 true (List.map cS u1a))])]⟩) [] [0, 1, 5] [] [0] (by kernel_rfl) ?_
        refine Wc.skip ?_
        apply Wc.seq
        refine Wc.block ?_
        apply Wc.seq
        obtain ⟨u5t, h119, h117⟩ := obind h117
        obtain ⟨uc9, h120, h117⟩ := obind h117
        refine Wc.region [{}, {}, {}, { r := some (.v (.str u5t) []) }, {}, { c := some (List.map cS (u1a.set ((u19).toNat) u5t)) }] [] [0, 1, 5] [] [0] ⟨[(0, (.v (.slx), [(0, .al (.a 0 0) [])])), (1, (.v (.int .i64 u36), [])), (5, (.v (.int .i64 u19), []))], [], [(0, [(0, .ex 1000000007 true (List.map cS (u1a.set ((u19).toNat) u5t)))])]⟩ _ (by kernel_rfl) (.cons (claws_markText h119) (.cons (ix_obl (c := cS) cS_len h120) (.cons (mod_obl (off := 0) (new := [.str u5t]) (c := cS) rfl rfl (at'_spec h120).2 rfl) (.cons (st_obl (sz := 1) (off := 0) (s := 1) (c := cS) rfl (at'_spec h120).2 rfl (Nat.le_of_ble_eq_true rfl)) .nil)))) ?_
        refine Wc.region [] [] [0, 1, 5] [] [0] ⟨[(0, (.v (.slx), [(0, .al (.a 0 0) [])])), (1, (.v (.int .i64 (wr.i64 (u36 + 1))), [])), (5, (.v (.int .i64 u19), []))], [], [(0, [(0, .ex 1000000007 true (List.map cS (u1a.set ((u19).toNat) u5t)))])]⟩ _ (by kernel_rfl) .nil ?_
        refine Wc.region [] [] [0, 1, 5] [] [0] ⟨[(0, (.v (.slx), [(0, .al (.a 0 0) [])])), (1, (.v (.int .i64 (wr.i64 (u36 + 1))), [])), (5, (.v (.int .i64 (wr.i64 (u19 + 1))), []))], [], [(0, [(0, .ex 1000000007 true (List.map cS (u1a.set ((u19).toNat) u5t)))])]⟩ _ (by kernel_rfl) .nil ?_
        exact ⟨_, Nat.lt_succ_self _, _, _, _, rfl, h117⟩
      · refine Wc.condF h118 (by kernel_rfl) ?_
        refine Wc.fix (st' := ⟨[(1, (.v (.int .i64 u36), []))], [], [(0, [(0, .ex 1000000007 true (List.map cS u1a))])]⟩) [] [1] [] [0] (by kernel_rfl) ?_
        refine Wc.exit ?_
        obtain rfl := Option.some.inj h117
        exact ⟨_, _, rfl, rfl⟩
  · rintro st ⟨u6x, u6y, rfl, rfl⟩
    apply Wc.seq
    refine Wc.region [] [] [4] [] [0] ⟨[(4, (.v (.int .i64 u6x), []))], [], [(0, [(0, .ex 1000000007 true (List.map cS u6y))])]⟩ _ (by kernel_rfl) .nil ?_
    refine Wc.ret ?_
    obtain rfl := Option.some.inj h
    exact ⟨.inl rfl, by kernel_rfl, by kernel_rfl⟩

def plaws_markDb (k : Nat) (u47 : GDb) (u6z : Int) : Option (GDb × Int) :=
  (plaws_markClauseS k u47.gClauses u6z).bind fun u4k =>
  (plaws_markStringS k u47.gOpen u4k.2).bind fun u4z =>
  some (GDb.mk u4k.1 u4z.1, u4z.2)
theorem claws_markDb {k : Nat} {u47 : GDb} {u6z : Int} {r : GDb × Int} (h : plaws_markDb k u47 u6z = some r) : FnO Try.prog 14 [.io (.agg [.slx, .slx]) [(0, .ex 1000000007 true (List.map GClause.c u47.gClauses)), (1, .ex 1000000007 true (List.map cS u47.gOpen))], .v (.int .i64 u6z) []] (.v (.int .i64 r.2) []) [(0, .v .undef [(0, .ex 1000000007 true (List.map GClause.c r.1.gClauses)), (1, .ex 1000000007 true (List.map cS r.1.gOpen))])] := by
  refine FnO.of Try.func14 (rfl : Try.f14.body = some _) (Nat.le_of_ble_eq_true (by kernel_rfl)) (Nat.le_of_ble_eq_true (by kernel_rfl)) ?_
  intro w0 X0 Fin pv0 pb
  unfold plaws_markDb at h
  apply Wc.seq
  refine Wc.region [] [] [1, 2] [2] [0] ⟨[(1, (.v (.int .i64 u6z), [])), (2, (.ptr 2 0, []))], [(2, .cells [.slx, .slx] [(0, .al (.a 0 0) []), (1, .al (.a 0 1) [])])], [(0, [(0, .ex 1000000007 true (List.map GClause.c u47.gClauses)), (1, .ex 1000000007 true (List.map cS u47.gOpen))])]⟩ _ (by kernel_rfl) .nil ?_
  apply Wc.seq
  obtain ⟨u4k, h121, h⟩ := obind h
  refine Wc.region [{}, {}, {}, { io := [0], r := some (.v (.int .i64 u4k.2) []), outs := [(0, .v .undef [(0, .ex 1000000007 true (List.map GClause.c u4k.1))])] }] [] [1, 2] [2] [0] ⟨[(1, (.v (.int .i64 u4k.2), [])), (2, (.ptr 2 0, []))], [(2, .cells [.slx, .slx] [(0, .al (.a 0 0) []), (1, .al (.a 0 1) [])])], [(0, [(0, .ex 1000000007 true (List.map GClause.c u4k.1)), (1, .ex 1000000007 true (List.map cS u47.gOpen))])]⟩ _ (by kernel_rfl) (.cons (FnO.any (args := [.io (.slx) [(0, .ex 1000000007 true (List.map GClause.c u47.gClauses))], .v (.int .i64 u6z) []]) (claws_markClauseS h121)) .nil) ?_
  apply Wc.seq
  obtain ⟨u4z, h122, h⟩ := obind h
  refine Wc.region [{}, {}, {}, { io := [0], r := some (.v (.int .i64 u4z.2) []), outs := [(0, .v .undef [(0, .ex 1000000007 true (List.map cS u4z.1))])] }] [] [1] [] [0] ⟨[(1, (.v (.int .i64 u4z.2), []))], [], [(0, [(0, .ex 1000000007 true (List.map GClause.c u4k.1)), (1, .ex 1000000007 true (List.map cS u4z.1))])]⟩ _ (by kernel_rfl) (.cons (FnO.any (args := [.io (.slx) [(0, .ex 1000000007 true (List.map cS u47.gOpen))], .v (.int .i64 u4k.2) []]) (claws_markStringS h122)) .nil) ?_
  apply Wc.seq
  refine Wc.region [] [] [4] [] [0] ⟨[(4, (.v (.int .i64 u4z.2), []))], [], [(0, [(0, .ex 1000000007 true (List.map GClause.c u4k.1)), (1, .ex 1000000007 true (List.map cS u4z.1))])]⟩ _ (by kernel_rfl) .nil ?_
  refine Wc.ret ?_
  obtain rfl := Option.some.inj h
  exact ⟨.inl rfl, by kernel_rfl, by kernel_rfl⟩

def plaws_eqIns (k : Nat) (u1b : GIns) (u1c : GIns) : Option Bool :=
  if (u1b.gOp != u1c.gOp) = true then
    some false
  else
    if (!(sEq u1b.gName u1c.gName)) = true then
      some false
    else
      if (u1b.gNum != u1c.gNum) = true then
        some false
      else
        if (u1b.gMany != u1c.gMany) = true then
          some false
        else
          some true
theorem claws_eqIns {k : Nat} {u1b : GIns} {u1c : GIns} {r : Bool} (h : plaws_eqIns k u1b u1c = some r) : FnO Try.prog 128 [.v (.agg (GIns.q u1b)) [], .v (.agg (GIns.q u1c)) []] (.v (.bool r) []) [] := by
  refine FnO.of Try.func128 (rfl : Try.f128.body = some _) (Nat.le_of_ble_eq_true (by kernel_rfl)) (Nat.le_of_ble_eq_true (by kernel_rfl)) ?_
  intro w0 X0 Fin pv0 pb
  unfold plaws_eqIns at h
  apply Wc.seq
  refine Wc.region [] [] [2, 3] [2, 3] [] ⟨[(2, (.ptr 2 0, [])), (3, (.ptr 3 0, []))], [(2, .cells (GIns.q u1b) []), (3, .cells (GIns.q u1c) [])], []⟩ _ (by kernel_rfl) .nil ?_
  apply Wc.seq
  apply Wc.seq
  refine Wc.region [] [] [2, 3, 9] [2, 3] [] ⟨[(2, (.ptr 2 0, [])), (3, (.ptr 3 0, [])), (9, (.v (.bool (u1b.gOp != u1c.gOp)), []))], [(2, .cells (GIns.q u1b) []), (3, .cells (GIns.q u1c) [])], []⟩ _ (by kernel_rfl) .nil ?_
  rcases oif h with ⟨h123, h⟩ | ⟨h123, h⟩
  · refine Wc.condT h123 (by kernel_rfl) ?_
    apply Wc.seq
    refine Wc.region [] [] [4] [] [] ⟨[(4, (.v (.bool false), []))], [], []⟩ _ (by kernel_rfl) .nil ?_
    refine Wc.ret ?_
    obtain rfl := Option.some.inj h
    exact ⟨.inl rfl, by kernel_rfl, by kernel_rfl⟩
  · refine Wc.condF h123 (by kernel_rfl) ?_
    refine Wc.fix (st' := ⟨[(2, (.ptr 2 0, [])), (3, (.ptr 3 0, []))], [(2, .cells (GIns.q u1b) []), (3, .cells (GIns.q u1c) [])], []⟩) [] [2, 3] [2, 3] [] (by kernel_rfl) ?_
    refine Wc.skip ?_
    apply Wc.seq
    apply Wc.seq
    refine Wc.region [] [] [2, 3, 14] [2, 3] [] ⟨[(2, (.ptr 2 0, [])), (3, (.ptr 3 0, [])), (14, (.v (.bool (!(sEq u1b.gName u1c.gName))), []))], [(2, .cells (GIns.q u1b) []), (3, .cells (GIns.q u1c) [])], []⟩ _ (by kernel_rfl) .nil ?_
    rcases oif h with ⟨h124, h⟩ | ⟨h124, h⟩
    · refine Wc.condT h124 (by kernel_rfl) ?_
      apply Wc.seq
      refine Wc.region [] [] [4] [] [] ⟨[(4, (.v (.bool false), []))], [], []⟩ _ (by kernel_rfl) .nil ?_
      refine Wc.ret ?_
      obtain rfl := Option.some.inj h
      exact ⟨.inl rfl, by kernel_rfl, by kernel_rfl⟩
    · refine Wc.condF h124 (by kernel_rfl) ?_
      refine Wc.fix (st' := ⟨[(2, (.ptr 2 0, [])), (3, (.ptr 3 0, []))], [(2, .cells (GIns.q u1b) []), (3, .cells (GIns.q u1c) [])], []⟩) [] [2, 3] [2, 3] [] (by kernel_rfl) ?_
      refine Wc.skip ?_
      apply Wc.seq
      apply Wc.seq
      refine Wc.region [] [] [2, 3, 19] [2, 3] [] ⟨[(2, (.ptr 2 0, [])), (3, (.ptr 3 0, [])), (19, (.v (.bool (u1b.gNum != u1c.gNum)), []))], [(2, .cells (GIns.q u1b) []), (3, .cells (GIns.q u1c) [])], []⟩ _ (by kernel_rfl) .nil ?_
      rcases oif h with ⟨h125, h⟩ | ⟨h125, h⟩
      · refine Wc.condT h125 (by kernel_rfl) ?_
        apply Wc.seq
        refine Wc.region [] [] [4] [] [] ⟨[(4, (.v (.bool false), []))], [], []⟩ _ (by kernel_rfl) .nil ?_
        refine Wc.ret ?_
        obtain rfl := Option.some.inj h
        exact ⟨.inl rfl, by kernel_rfl, by kernel_rfl⟩
      · refine Wc.condF h125 (by kernel_rfl) ?_
        refine Wc.fix (st' := ⟨[(2, (.ptr 2 0, [])), (3, (.ptr 3 0, []))], [(2, .cells (GIns.q u1b) []), (3, .cells (GIns.q u1c) [])], []⟩) [] [2, 3] [2, 3] [] (by kernel_rfl) ?_
        refine Wc.skip ?_
        apply Wc.seq
        apply Wc.seq
        refine Wc.region [] [] [24] [] [] ⟨[(24, (.v (.bool (u1b.gMany != u1c.gMany)), []))], [], []⟩ _ (by kernel_rfl) .nil ?_
        rcases oif h with ⟨h126, h⟩ | ⟨h126, h⟩
        · refine Wc.condT h126 (by kernel_rfl) ?_
          apply Wc.seq
          refine Wc.region [] [] [4] [] [] ⟨[(4, (.v (.bool false), []))], [], []⟩ _ (by kernel_rfl) .nil ?_
          refine Wc.ret ?_
          obtain rfl := Option.some.inj h
          exact ⟨.inl rfl, by kernel_rfl, by kernel_rfl⟩
        · refine Wc.condF h126 (by kernel_rfl) ?_
          refine Wc.fix (st' := ⟨[], [], []⟩) [] [] [] [] (by kernel_rfl) ?_
          refine Wc.skip ?_
          apply Wc.seq
          refine Wc.region [] [] [4] [] [] ⟨[(4, (.v (.bool true), []))], [], []⟩ _ (by kernel_rfl) .nil ?_
          refine Wc.ret ?_
          obtain rfl := Option.some.inj h
          exact ⟨.inl rfl, by kernel_rfl, by kernel_rfl⟩

def plaws_eqInsS_L1 (k : Nat) (zv : List GIns) (u0i : List GIns) : Nat → Int → Option (Out Bool Unit)
  | 0, _ => none
  | m + 1, u2p =>
    if (decide (u2p < (zv.length : Int))) = true then
      (at' zv u2p).bind fun u93 =>
      (at' u0i u2p).bind fun u94 =>
      (plaws_eqIns k u93 u94).bind fun uak =>
      if (!uak) = true then
        some (.ret false)
      else
        plaws_eqInsS_L1 k zv u0i m (wr.i64 (u2p + 1))
    else
      some (.done ())
def plaws_eqInsS (k : Nat) (zv : List GIns) (u0i : List GIns) : Option Bool :=
  if ((zv.length : Int) != (u0i.length : Int)) = true then
    some false
  else
    (plaws_eqInsS_L1 k zv u0i k 0).bind fun out1 => match out1 with
    | .ret r => some r
    | .done () =>
      some true
theorem claws_eqInsS {k : Nat} {zv : List GIns} {u0i : List GIns} {r : Bool} (h : plaws_eqInsS k zv u0i = some r) : FnO Try.prog 84 [.v (.sl (List.map GIns.c zv)) [], .v (.sl (List.map GIns.c u0i)) []] (.v (.bool r) []) [] := by
  refine FnO.of Try.func84 (rfl : Try.f84.body = some _) (Nat.le_of_ble_eq_true (by kernel_rfl)) (Nat.le_of_ble_eq_true (by kernel_rfl)) ?_
  intro w0 X0 Fin pv0 pb
  unfold plaws_eqInsS at h
  apply Wc.seq
  refine Wc.region [] [] [0, 1] [] [] ⟨[(0, (.v (.sl (List.map GIns.c zv)), [])), (1, (.v (.sl (List.map GIns.c u0i)), []))], [], []⟩ _ (by kernel_rfl) .nil ?_
  apply Wc.seq
  apply Wc.seq
  refine Wc.region [{}, { v := some (.int .i64 (zv.length : Int)) }, {}, { v := some (.int .i64 (u0i.length : Int)) }] [] [0, 1, 10] [] [] ⟨[(0, (.v (.sl (List.map GIns.c zv)), [])), (1, (.v (.sl (List.map GIns.c u0i)), [])), (10, (.v (.bool ((zv.length : Int) != (u0i.length : Int))), []))], [], []⟩ _ (by kernel_rfl) (.cons (len_obl GIns.c zv) (.cons (len_obl GIns.c u0i) .nil)) ?_
  rcases oif h with ⟨h127, h⟩ | ⟨h127, h⟩
  · refine Wc.condT h127 (by kernel_rfl) ?_
    apply Wc.seq
    refine Wc.region [] [] [4] [] [] ⟨[(4, (.v (.bool false), []))], [], []⟩ _ (by kernel_rfl) .nil ?_
    refine Wc.ret ?_
    obtain rfl := Option.some.inj h
    exact ⟨.inl rfl, by kernel_rfl, by kernel_rfl⟩
  · refine Wc.condF h127 (by kernel_rfl) ?_
    refine Wc.fix (st' := ⟨[(0, (.v (.sl (List.map GIns.c zv)), [])), (1, (.v (.sl (List.map GIns.c u0i)), []))], [], []⟩) [] [0, 1] [] [] (by kernel_rfl) ?_
    refine Wc.skip ?_
    apply Wc.seq
    apply Wc.seq
    refine Wc.region [] [] [0, 1, 5] [] [] ⟨[(0, (.v (.sl (List.map GIns.c zv)), [])), (1, (.v (.sl (List.map GIns.c u0i)), [])), (5, (.v (.int .i64 0), []))], [], []⟩ _ (by kernel_rfl) .nil ?_
    obtain ⟨out1, h128, h⟩ := obind h
    refine Wc.lastJ (fun st => out1 = .done () ∧ st = ⟨[], [], []⟩) ?_ ?_
    · refine Wc.block ?_
      refine Wc.loop (fun m st => ∃ (u2p : Int), st = ⟨[(0, (.v (.sl (List.map GIns.c zv)), [])), (1, (.v (.sl (List.map GIns.c u0i)), [])), (5, (.v (.int .i64 u2p), []))], [], []⟩ ∧ plaws_eqInsS_L1 k zv u0i m u2p = some out1) ?_ k ⟨_, rfl, h128⟩
      rintro m st ⟨u2p, rfl, h128⟩
      cases m with
      | zero => exact (onone h128).elim
      | succ m =>
        apply Wc.seq
        apply Wc.seq
        refine Wc.region [{}, {}, { v := some (.int .i64 (zv.length : Int)) }] [] [0, 1, 5, 14] [] [] ⟨[(0, (.v (.sl (List.map GIns.c zv)), [])), (1, (.v (.sl (List.map GIns.c u0i)), [])), (5, (.v (.int .i64 u2p), [])), (14, (.v (.bool (decide (u2p < (zv.length : Int)))), []))], [], []⟩ _ (by kernel_rfl) (.cons (len_obl GIns.c zv) .nil) ?_
        rcases oif h128 with ⟨h129, h128⟩ | ⟨h129, h128⟩
        · refine Wc.condT h129 (by kernel_rfl) ?_
          refine Wc.fix (st' := ⟨[(0, (.v (.sl (List.map GIns.c zv)), [])), (1, (.v (.sl (List.map GIns.c u0i)), [])), (5, (.v (.int .i64 u2p), []))], [], []⟩) [] [0, 1, 5] [] [] (by kernel_rfl) ?_
          refine Wc.skip ?_
          apply Wc.seq
          refine Wc.block ?_
          apply Wc.seq
          obtain ⟨u93, h130, h128⟩ := obind h128
          obtain ⟨u94, h131, h128⟩ := obind h128
          obtain ⟨uak, h132, h128⟩ := obind h128
          refine Wc.draw hmix [{}, {}, { v := some (.vptr (GIns.q u93)) }, {}, {}, {}, { v := some (.vptr (GIns.q u94)) }, {}, { r := some (.v (.bool uak) []) }] [] [0, 1, 5, 26] [] [] ⟨[(0, (.v (.sl (List.map GIns.c zv)), [])), (1, (.v (.sl (List.map GIns.c u0i)), [])), (5, (.v (.int .i64 u2p), [])), (26, (.v (.bool (!uak)), []))], [], []⟩ _ (by kernel_rfl) (fun X => by kernel_rfl) (.cons (at_obl (c := GIns.c) (GIns.c_eq u93) GIns.c_len h130) (.cons (len_ok 4 (GIns.q u93)) (.cons (at_obl (c := GIns.c) (GIns.c_eq u94) GIns.c_len h131) (.cons (len_ok 4 (GIns.q u94)) (.cons (claws_eqIns h132) .nil))))) ?_
          rcases oif h128 with ⟨h133, h128⟩ | ⟨h133, h128⟩
          · refine Wc.condT h133 (by kernel_rfl) ?_
            apply Wc.seq
            refine Wc.region [] [] [4] [] [] ⟨[(4, (.v (.bool false), []))], [], []⟩ _ (by kernel_rfl) .nil ?_
            refine Wc.ret ?_
            obtain rfl := Option.some.inj h128
            obtain rfl := Option.some.inj h
            exact ⟨.inl rfl, by kernel_rfl, by kernel_rfl⟩
          · refine Wc.condF h133 (by kernel_rfl) ?_
            refine Wc.fix (st' := ⟨[(0, (.v (.sl (List.map GIns.c zv)), [])), (1, (.v (.sl (List.map GIns.c u0i)), [])), (5, (.v (.int .i64 u2p), []))], [], []⟩) [] [0, 1, 5] [] [] (by kernel_rfl) ?_
            refine Wc.skip ?_
            refine Wc.region [] [] [0, 1, 5] [] [] ⟨[(0, (.v (.sl (List.map GIns.c zv)), [])), (1, (.v (.sl (List.map GIns.c u0i)), [])), (5, (.v (.int .i64 (wr.i64 (u2p + 1))), []))], [], []⟩ _ (by kernel_rfl) .nil ?_
            exact ⟨_, Nat.lt_succ_self _, _, rfl, h128⟩
        · refine Wc.condF h129 (by kernel_rfl) ?_
          refine Wc.fix (st' := ⟨[], [], []⟩) [] [] [] [] (by kernel_rfl) ?_
          refine Wc.exit ?_
          obtain rfl := Option.some.inj h128
          exact ⟨rfl, rfl⟩
    · rintro st ⟨rfl, rfl⟩
      apply Wc.seq
      refine Wc.region [] [] [4] [] [] ⟨[(4, (.v (.bool true), []))], [], []⟩ _ (by kernel_rfl) .nil ?_
      refine Wc.ret ?_
      obtain rfl := Option.some.inj h
      exact ⟨.inl rfl, by kernel_rfl, by kernel_rfl⟩

def plaws_eqCode (k : Nat) (u3q : GCode) (u3r : GCode) : Option Bool :=
  (plaws_eqInsS k u3q.gHead u3r.gHead).bind fun ual =>
  if (!ual) = true then
    some false
  else
    (plaws_eqInsS k u3q.gBody u3r.gBody).bind fun uam =>
    if (!uam) = true then
      some false
    else
      if (u3q.gVars != u3r.gVars) = true then
        some false
      else
        some true
theorem claws_eqCode {k : Nat} {u3q : GCode} {u3r : GCode} {r : Bool} (h : plaws_eqCode k u3q u3r = some r) : FnO Try.prog 29 [.v (.agg (GCode.q u3q)) [], .v (.agg (GCode.q u3r)) []] (.v (.bool r) []) [] := by
  refine FnO.of Try.func29 (rfl : Try.f29.body = some _) (Nat.le_of_ble_eq_true (by kernel_rfl)) (Nat.le_of_ble_eq_true (by kernel_rfl)) ?_
  intro w0 X0 Fin pv0 pb
  unfold plaws_eqCode at h
  apply Wc.seq
  refine Wc.region [] [] [2, 3] [2, 3] [] ⟨[(2, (.ptr 2 0, [])), (3, (.ptr 3 0, []))], [(2, .cells (GCode.q u3q) []), (3, .cells (GCode.q u3r) [])], []⟩ _ (by kernel_rfl) .nil ?_
  apply Wc.seq
  apply Wc.seq
  obtain ⟨ual, h134, h⟩ := obind h
  refine Wc.region [{}, {}, {}, {}, { r := some (.v (.bool ual) []) }] [] [2, 3, 10] [2, 3] [] ⟨[(2, (.ptr 2 0, [])), (3, (.ptr 3 0, [])), (10, (.v (.bool (!ual)), []))], [(2, .cells (GCode.q u3q) []), (3, .cells (GCode.q u3r) [])], []⟩ _ (by kernel_rfl) (.cons (claws_eqInsS h134) .nil) ?_
  rcases oif h with ⟨h135, h⟩ | ⟨h135, h⟩
  · refine Wc.condT h135 (by kernel_rfl) ?_
    apply Wc.seq
    refine Wc.region [] [] [4] [] [] ⟨[(4, (.v (.bool false), []))], [], []⟩ _ (by kernel_rfl) .nil ?_
    refine Wc.ret ?_
    obtain rfl := Option.some.inj h
    exact ⟨.inl rfl, by kernel_rfl, by kernel_rfl⟩
  · refine Wc.condF h135 (by kernel_rfl) ?_
    refine Wc.fix (st' := ⟨[(2, (.ptr 2 0, [])), (3, (.ptr 3 0, []))], [(2, .cells (GCode.q u3q) []), (3, .cells (GCode.q u3r) [])], []⟩) [] [2, 3] [2, 3] [] (by kernel_rfl) ?_
    refine Wc.skip ?_
    apply Wc.seq
    apply Wc.seq
    obtain ⟨uam, h136, h⟩ := obind h
    refine Wc.region [{}, {}, {}, {}, { r := some (.v (.bool uam) []) }] [] [2, 3, 16] [2, 3] [] ⟨[(2, (.ptr 2 0, [])), (3, (.ptr 3 0, [])), (16, (.v (.bool (!uam)), []))], [(2, .cells (GCode.q u3q) []), (3, .cells (GCode.q u3r) [])], []⟩ _ (by kernel_rfl) (.cons (claws_eqInsS h136) .nil) ?_
    rcases oif h with ⟨h137, h⟩ | ⟨h137, h⟩
    · refine Wc.condT h137 (by kernel_rfl) ?_
      apply Wc.seq
      refine Wc.region [] [] [4] [] [] ⟨[(4, (.v (.bool false), []))], [], []⟩ _ (by kernel_rfl) .nil ?_
      refine Wc.ret ?_
      obtain rfl := Option.some.inj h
      exact ⟨.inl rfl, by kernel_rfl, by kernel_rfl⟩
    · refine Wc.condF h137 (by kernel_rfl) ?_
      refine Wc.fix (st' := ⟨[(2, (.ptr 2 0, [])), (3, (.ptr 3 0, []))], [(2, .cells (GCode.q u3q) []), (3, .cells (GCode.q u3r) [])], []⟩) [] [2, 3] [2, 3] [] (by kernel_rfl) ?_
      refine Wc.skip ?_
      apply Wc.seq
      apply Wc.seq
      refine Wc.region [] [] [21] [] [] ⟨[(21, (.v (.bool (u3q.gVars != u3r.gVars)), []))], [], []⟩ _ (by kernel_rfl) .nil ?_
      rcases oif h with ⟨h138, h⟩ | ⟨h138, h⟩
      · refine Wc.condT h138 (by kernel_rfl) ?_
        apply Wc.seq
        refine Wc.region [] [] [4] [] [] ⟨[(4, (.v (.bool false), []))], [], []⟩ _ (by kernel_rfl) .nil ?_
        refine Wc.ret ?_
        obtain rfl := Option.some.inj h
        exact ⟨.inl rfl, by kernel_rfl, by kernel_rfl⟩
      · refine Wc.condF h138 (by kernel_rfl) ?_
        refine Wc.fix (st' := ⟨[], [], []⟩) [] [] [] [] (by kernel_rfl) ?_
        refine Wc.skip ?_
        apply Wc.seq
        refine Wc.region [] [] [4] [] [] ⟨[(4, (.v (.bool true), []))], [], []⟩ _ (by kernel_rfl) .nil ?_
        refine Wc.ret ?_
        obtain rfl := Option.some.inj h
        exact ⟨.inl rfl, by kernel_rfl, by kernel_rfl⟩

def plaws_eqKept (k : Nat) (u1x : GKept) (u1y : GKept) : Option Bool :=
  (plaws_eqClause k u1x.gClause u1y.gClause).bind fun uan =>
  if (!uan) = true then
    some false
  else
    (plaws_eqCode k u1x.gCode u1y.gCode).bind fun uao =>
    if (!uao) = true then
      some false
    else
      if (u1x.gBorn != u1y.gBorn) = true then
        some false
      else
        if (u1x.gDied != u1y.gDied) = true then
          some false
        else
          some true
set_option maxHeartbeats 4000000 in
theorem claws_eqKept {k : Nat} {u1x : GKept} {u1y : GKept} {r : Bool} (h : plaws_eqKept k u1x u1y = some r) : FnO Try.prog 137 [.v (.agg (GKept.q u1x)) [], .v (.agg (GKept.q u1y)) []] (.v (.bool r) []) [] := by
  refine FnO.of Try.func137 (rfl : Try.f137.body = some _) (Nat.le_of_ble_eq_true (by kernel_rfl)) (Nat.le_of_ble_eq_true (by kernel_rfl)) ?_
  intro w0 X0 Fin pv0 pb
  unfold plaws_eqKept at h
  apply Wc.seq
  refine Wc.region [] [] [2, 3] [2, 3] [] ⟨[(2, (.ptr 2 0, [])), (3, (.ptr 3 0, []))], [(2, .cells (GKept.q u1x) []), (3, .cells (GKept.q u1y) [])], []⟩ _ (by kernel_rfl) .nil ?_
  apply Wc.seq
  apply Wc.seq
  obtain ⟨uan, h139, h⟩ := obind h
  refine Wc.region [{}, {}, {}, {}, { r := some (.v (.bool uan) []) }] [] [2, 3, 10] [2, 3] [] ⟨[(2, (.ptr 2 0, [])), (3, (.ptr 3 0, [])), (10, (.v (.bool (!uan)), []))], [(2, .cells (GKept.q u1x) []), (3, .cells (GKept.q u1y) [])], []⟩ _ (by kernel_rfl) (.cons (claws_eqClause h139) .nil) ?_
  rcases oif h with ⟨h140, h⟩ | ⟨h140, h⟩
  · refine Wc.condT h140 (by kernel_rfl) ?_
    apply Wc.seq
    refine Wc.region [] [] [4] [] [] ⟨[(4, (.v (.bool false), []))], [], []⟩ _ (by kernel_rfl) .nil ?_
    refine Wc.ret ?_
    obtain rfl := Option.some.inj h
    exact ⟨.inl rfl, by kernel_rfl, by kernel_rfl⟩
  · refine Wc.condF h140 (by kernel_rfl) ?_
    refine Wc.fix (st' := ⟨[(2, (.ptr 2 0, [])), (3, (.ptr 3 0, []))], [(2, .cells (GKept.q u1x) []), (3, .cells (GKept.q u1y) [])], []⟩) [] [2, 3] [2, 3] [] (by kernel_rfl) ?_
    refine Wc.skip ?_
    apply Wc.seq
    apply Wc.seq
    obtain ⟨uao, h141, h⟩ := obind h
    refine Wc.region [{}, {}, {}, {}, { r := some (.v (.bool uao) []) }] [] [2, 3, 16] [2, 3] [] ⟨[(2, (.ptr 2 0, [])), (3, (.ptr 3 0, [])), (16, (.v (.bool (!uao)), []))], [(2, .cells (GKept.q u1x) []), (3, .cells (GKept.q u1y) [])], []⟩ _ (by kernel_rfl) (.cons (claws_eqCode h141) .nil) ?_
    rcases oif h with ⟨h142, h⟩ | ⟨h142, h⟩
    · refine Wc.condT h142 (by kernel_rfl) ?_
      apply Wc.seq
      refine Wc.region [] [] [4] [] [] ⟨[(4, (.v (.bool false), []))], [], []⟩ _ (by kernel_rfl) .nil ?_
      refine Wc.ret ?_
      obtain rfl := Option.some.inj h
      exact ⟨.inl rfl, by kernel_rfl, by kernel_rfl⟩
    · refine Wc.condF h142 (by kernel_rfl) ?_
      refine Wc.fix (st' := ⟨[(2, (.ptr 2 0, [])), (3, (.ptr 3 0, []))], [(2, .cells (GKept.q u1x) []), (3, .cells (GKept.q u1y) [])], []⟩) [] [2, 3] [2, 3] [] (by kernel_rfl) ?_
      refine Wc.skip ?_
      apply Wc.seq
      apply Wc.seq
      refine Wc.region [] [] [2, 3, 21] [2, 3] [] ⟨[(2, (.ptr 2 0, [])), (3, (.ptr 3 0, [])), (21, (.v (.bool (u1x.gBorn != u1y.gBorn)), []))], [(2, .cells (GKept.q u1x) []), (3, .cells (GKept.q u1y) [])], []⟩ _ (by kernel_rfl) .nil ?_
      rcases oif h with ⟨h143, h⟩ | ⟨h143, h⟩
      · refine Wc.condT h143 (by kernel_rfl) ?_
        apply Wc.seq
        refine Wc.region [] [] [4] [] [] ⟨[(4, (.v (.bool false), []))], [], []⟩ _ (by kernel_rfl) .nil ?_
        refine Wc.ret ?_
        obtain rfl := Option.some.inj h
        exact ⟨.inl rfl, by kernel_rfl, by kernel_rfl⟩
      · refine Wc.condF h143 (by kernel_rfl) ?_
        refine Wc.fix (st' := ⟨[(2, (.ptr 2 0, [])), (3, (.ptr 3 0, []))], [(2, .cells (GKept.q u1x) []), (3, .cells (GKept.q u1y) [])], []⟩) [] [2, 3] [2, 3] [] (by kernel_rfl) ?_
        refine Wc.skip ?_
        apply Wc.seq
        apply Wc.seq
        refine Wc.region [] [] [26] [] [] ⟨[(26, (.v (.bool (u1x.gDied != u1y.gDied)), []))], [], []⟩ _ (by kernel_rfl) .nil ?_
        rcases oif h with ⟨h144, h⟩ | ⟨h144, h⟩
        · refine Wc.condT h144 (by kernel_rfl) ?_
          apply Wc.seq
          refine Wc.region [] [] [4] [] [] ⟨[(4, (.v (.bool false), []))], [], []⟩ _ (by kernel_rfl) .nil ?_
          refine Wc.ret ?_
          obtain rfl := Option.some.inj h
          exact ⟨.inl rfl, by kernel_rfl, by kernel_rfl⟩
        · refine Wc.condF h144 (by kernel_rfl) ?_
          refine Wc.fix (st' := ⟨[], [], []⟩) [] [] [] [] (by kernel_rfl) ?_
          refine Wc.skip ?_
          apply Wc.seq
          refine Wc.region [] [] [4] [] [] ⟨[(4, (.v (.bool true), []))], [], []⟩ _ (by kernel_rfl) .nil ?_
          refine Wc.ret ?_
          obtain rfl := Option.some.inj h
          exact ⟨.inl rfl, by kernel_rfl, by kernel_rfl⟩

def plaws_eqKeptS_L1 (k : Nat) (zw : List GKept) (u0j : List GKept) : Nat → Int → Option (Out Bool Unit)
  | 0, _ => none
  | m + 1, u2q =>
    if (decide (u2q < (zw.length : Int))) = true then
      (at' zw u2q).bind fun u95 =>
      (at' u0j u2q).bind fun u96 =>
      (plaws_eqKept k u95 u96).bind fun uap =>
      if (!uap) = true then
        some (.ret false)
      else
        plaws_eqKeptS_L1 k zw u0j m (wr.i64 (u2q + 1))
    else
      some (.done ())
def plaws_eqKeptS (k : Nat) (zw : List GKept) (u0j : List GKept) : Option Bool :=
  if ((zw.length : Int) != (u0j.length : Int)) = true then
    some false
  else
    (plaws_eqKeptS_L1 k zw u0j k 0).bind fun out1 => match out1 with
    | .ret r => some r
    | .done () =>
      some true
theorem claws_eqKeptS {k : Nat} {zw : List GKept} {u0j : List GKept} {r : Bool} (h : plaws_eqKeptS k zw u0j = some r) : FnO Try.prog 99 [.v (.sl (List.map GKept.c zw)) [], .v (.sl (List.map GKept.c u0j)) []] (.v (.bool r) []) [] := by
  refine FnO.of Try.func99 (rfl : Try.f99.body = some _) (Nat.le_of_ble_eq_true (by kernel_rfl)) (Nat.le_of_ble_eq_true (by kernel_rfl)) ?_
  intro w0 X0 Fin pv0 pb
  unfold plaws_eqKeptS at h
  apply Wc.seq
  refine Wc.region [] [] [0, 1] [] [] ⟨[(0, (.v (.sl (List.map GKept.c zw)), [])), (1, (.v (.sl (List.map GKept.c u0j)), []))], [], []⟩ _ (by kernel_rfl) .nil ?_
  apply Wc.seq
  apply Wc.seq
  refine Wc.region [{}, { v := some (.int .i64 (zw.length : Int)) }, {}, { v := some (.int .i64 (u0j.length : Int)) }] [] [0, 1, 10] [] [] ⟨[(0, (.v (.sl (List.map GKept.c zw)), [])), (1, (.v (.sl (List.map GKept.c u0j)), [])), (10, (.v (.bool ((zw.length : Int) != (u0j.length : Int))), []))], [], []⟩ _ (by kernel_rfl) (.cons (len_obl GKept.c zw) (.cons (len_obl GKept.c u0j) .nil)) ?_
  rcases oif h with ⟨h145, h⟩ | ⟨h145, h⟩
  · refine Wc.condT h145 (by kernel_rfl) ?_
    apply Wc.seq
    refine Wc.region [] [] [4] [] [] ⟨[(4, (.v (.bool false), []))], [], []⟩ _ (by kernel_rfl) .nil ?_
    refine Wc.ret ?_
    obtain rfl := Option.some.inj h
    exact ⟨.inl rfl, by kernel_rfl, by kernel_rfl⟩
  · refine Wc.condF h145 (by kernel_rfl) ?_
    refine Wc.fix (st' := ⟨[(0, (.v (.sl (List.map GKept.c zw)), [])), (1, (.v (.sl (List.map GKept.c u0j)), []))], [], []⟩) [] [0, 1] [] [] (by kernel_rfl) ?_
    refine Wc.skip ?_
    apply Wc.seq
    apply Wc.seq
    refine Wc.region [] [] [0, 1, 5] [] [] ⟨[(0, (.v (.sl (List.map GKept.c zw)), [])), (1, (.v (.sl (List.map GKept.c u0j)), [])), (5, (.v (.int .i64 0), []))], [], []⟩ _ (by kernel_rfl) .nil ?_
    obtain ⟨out1, h146, h⟩ := obind h
    refine Wc.lastJ (fun st => out1 = .done () ∧ st = ⟨[], [], []⟩) ?_ ?_
    · refine Wc.block ?_
      refine Wc.loop (fun m st => ∃ (u2q : Int), st = ⟨[(0, (.v (.sl (List.map GKept.c zw)), [])), (1, (.v (.sl (List.map GKept.c u0j)), [])), (5, (.v (.int .i64 u2q), []))], [], []⟩ ∧ plaws_eqKeptS_L1 k zw u0j m u2q = some out1) ?_ k ⟨_, rfl, h146⟩
      rintro m st ⟨u2q, rfl, h146⟩
      cases m with
      | zero => exact (onone h146).elim
      | succ m =>
        apply Wc.seq
        apply Wc.seq
        refine Wc.region [{}, {}, { v := some (.int .i64 (zw.length : Int)) }] [] [0, 1, 5, 14] [] [] ⟨[(0, (.v (.sl (List.map GKept.c zw)), [])), (1, (.v (.sl (List.map GKept.c u0j)), [])), (5, (.v (.int .i64 u2q), [])), (14, (.v (.bool (decide (u2q < (zw.length : Int)))), []))], [], []⟩ _ (by kernel_rfl) (.cons (len_obl GKept.c zw) .nil) ?_
        rcases oif h146 with ⟨h147, h146⟩ | ⟨h147, h146⟩
        · refine Wc.condT h147 (by kernel_rfl) ?_
          refine Wc.fix (st' := ⟨[(0, (.v (.sl (List.map GKept.c zw)), [])), (1, (.v (.sl (List.map GKept.c u0j)), [])), (5, (.v (.int .i64 u2q), []))], [], []⟩) [] [0, 1, 5] [] [] (by kernel_rfl) ?_
          refine Wc.skip ?_
          apply Wc.seq
          refine Wc.block ?_
          apply Wc.seq
          obtain ⟨u95, h148, h146⟩ := obind h146
          obtain ⟨u96, h149, h146⟩ := obind h146
          obtain ⟨uap, h150, h146⟩ := obind h146
          refine Wc.draw hmix [{}, {}, { v := some (.vptr (GKept.q u95)) }, {}, {}, {}, { v := some (.vptr (GKept.q u96)) }, {}, { r := some (.v (.bool uap) []) }] [] [0, 1, 5, 26] [] [] ⟨[(0, (.v (.sl (List.map GKept.c zw)), [])), (1, (.v (.sl (List.map GKept.c u0j)), [])), (5, (.v (.int .i64 u2q), [])), (26, (.v (.bool (!uap)), []))], [], []⟩ _ (by kernel_rfl) (fun X => by kernel_rfl) (.cons (at_obl (c := GKept.c) (GKept.c_eq u95) GKept.c_len h148) (.cons (len_ok 14 (GKept.q u95)) (.cons (at_obl (c := GKept.c) (GKept.c_eq u96) GKept.c_len h149) (.cons (len_ok 14 (GKept.q u96)) (.cons (claws_eqKept h150) .nil))))) ?_
          rcases oif h146 with ⟨h151, h146⟩ | ⟨h151, h146⟩
          · refine Wc.condT h151 (by kernel_rfl) ?_
            apply Wc.seq
            refine Wc.region [] [] [4] [] [] ⟨[(4, (.v (.bool false), []))], [], []⟩ _ (by kernel_rfl) .nil ?_
            refine Wc.ret ?_
            obtain rfl := Option.some.inj h146
            obtain rfl := Option.some.inj h
            exact ⟨.inl rfl, by kernel_rfl, by kernel_rfl⟩
          · refine Wc.condF h151 (by kernel_rfl) ?_
            refine Wc.fix (st' := ⟨[(0, (.v (.sl (List.map GKept.c zw)), [])), (1, (.v (.sl (List.map GKept.c u0j)), [])), (5, (.v (.int .i64 u2q), []))], [], []⟩) [] [0, 1, 5] [] [] (by kernel_rfl) ?_
            refine Wc.skip ?_
            refine Wc.region [] [] [0, 1, 5] [] [] ⟨[(0, (.v (.sl (List.map GKept.c zw)), [])), (1, (.v (.sl (List.map GKept.c u0j)), [])), (5, (.v (.int .i64 (wr.i64 (u2q + 1))), []))], [], []⟩ _ (by kernel_rfl) .nil ?_
            exact ⟨_, Nat.lt_succ_self _, _, rfl, h146⟩
        · refine Wc.condF h147 (by kernel_rfl) ?_
          refine Wc.fix (st' := ⟨[], [], []⟩) [] [] [] [] (by kernel_rfl) ?_
          refine Wc.exit ?_
          obtain rfl := Option.some.inj h146
          exact ⟨rfl, rfl⟩
    · rintro st ⟨rfl, rfl⟩
      apply Wc.seq
      refine Wc.region [] [] [4] [] [] ⟨[(4, (.v (.bool true), []))], [], []⟩ _ (by kernel_rfl) .nil ?_
      refine Wc.ret ?_
      obtain rfl := Option.some.inj h
      exact ⟨.inl rfl, by kernel_rfl, by kernel_rfl⟩

def plaws_eqStore (k : Nat) (u3s : GStore) (u3t : GStore) : Option Bool :=
  (plaws_eqKeptS k u3s.gList u3t.gList).bind fun uaq =>
  if (!uaq) = true then
    some false
  else
    (plaws_eqStringS k u3s.gOpen u3t.gOpen).bind fun uar =>
    if (!uar) = true then
      some false
    else
      if (u3s.gNow != u3t.gNow) = true then
        some false
      else
        some true
theorem claws_eqStore {k : Nat} {u3s : GStore} {u3t : GStore} {r : Bool} (h : plaws_eqStore k u3s u3t = some r) : FnO Try.prog 43 [.v (.agg (GStore.q u3s)) [], .v (.agg (GStore.q u3t)) []] (.v (.bool r) []) [] := by
  refine FnO.of Try.func43 (rfl : Try.f43.body = some _) (Nat.le_of_ble_eq_true (by kernel_rfl)) (Nat.le_of_ble_eq_true (by kernel_rfl)) ?_
  intro w0 X0 Fin pv0 pb
  unfold plaws_eqStore at h
  apply Wc.seq
  refine Wc.region [] [] [2, 3] [2, 3] [] ⟨[(2, (.ptr 2 0, [])), (3, (.ptr 3 0, []))], [(2, .cells (GStore.q u3s) []), (3, .cells (GStore.q u3t) [])], []⟩ _ (by kernel_rfl) .nil ?_
  apply Wc.seq
  apply Wc.seq
  obtain ⟨uaq, h152, h⟩ := obind h
  refine Wc.region [{}, {}, {}, {}, { r := some (.v (.bool uaq) []) }] [] [2, 3, 10] [2, 3] [] ⟨[(2, (.ptr 2 0, [])), (3, (.ptr 3 0, [])), (10, (.v (.bool (!uaq)), []))], [(2, .cells (GStore.q u3s) []), (3, .cells (GStore.q u3t) [])], []⟩ _ (by kernel_rfl) (.cons (claws_eqKeptS h152) .nil) ?_
  rcases oif h with ⟨h153, h⟩ | ⟨h153, h⟩
  · refine Wc.condT h153 (by kernel_rfl) ?_
    apply Wc.seq
    refine Wc.region [] [] [4] [] [] ⟨[(4, (.v (.bool false), []))], [], []⟩ _ (by kernel_rfl) .nil ?_
    refine Wc.ret ?_
    obtain rfl := Option.some.inj h
    exact ⟨.inl rfl, by kernel_rfl, by kernel_rfl⟩
  · refine Wc.condF h153 (by kernel_rfl) ?_
    refine Wc.fix (st' := ⟨[(2, (.ptr 2 0, [])), (3, (.ptr 3 0, []))], [(2, .cells (GStore.q u3s) []), (3, .cells (GStore.q u3t) [])], []⟩) [] [2, 3] [2, 3] [] (by kernel_rfl) ?_
    refine Wc.skip ?_
    apply Wc.seq
    apply Wc.seq
    obtain ⟨uar, h154, h⟩ := obind h
    refine Wc.region [{}, {}, {}, {}, { r := some (.v (.bool uar) []) }] [] [2, 3, 16] [2, 3] [] ⟨[(2, (.ptr 2 0, [])), (3, (.ptr 3 0, [])), (16, (.v (.bool (!uar)), []))], [(2, .cells (GStore.q u3s) []), (3, .cells (GStore.q u3t) [])], []⟩ _ (by kernel_rfl) (.cons (claws_eqStringS h154) .nil) ?_
    rcases oif h with ⟨h155, h⟩ | ⟨h155, h⟩
    · refine Wc.condT h155 (by kernel_rfl) ?_
      apply Wc.seq
      refine Wc.region [] [] [4] [] [] ⟨[(4, (.v (.bool false), []))], [], []⟩ _ (by kernel_rfl) .nil ?_
      refine Wc.ret ?_
      obtain rfl := Option.some.inj h
      exact ⟨.inl rfl, by kernel_rfl, by kernel_rfl⟩
    · refine Wc.condF h155 (by kernel_rfl) ?_
      refine Wc.fix (st' := ⟨[(2, (.ptr 2 0, [])), (3, (.ptr 3 0, []))], [(2, .cells (GStore.q u3s) []), (3, .cells (GStore.q u3t) [])], []⟩) [] [2, 3] [2, 3] [] (by kernel_rfl) ?_
      refine Wc.skip ?_
      apply Wc.seq
      apply Wc.seq
      refine Wc.region [] [] [21] [] [] ⟨[(21, (.v (.bool (u3s.gNow != u3t.gNow)), []))], [], []⟩ _ (by kernel_rfl) .nil ?_
      rcases oif h with ⟨h156, h⟩ | ⟨h156, h⟩
      · refine Wc.condT h156 (by kernel_rfl) ?_
        apply Wc.seq
        refine Wc.region [] [] [4] [] [] ⟨[(4, (.v (.bool false), []))], [], []⟩ _ (by kernel_rfl) .nil ?_
        refine Wc.ret ?_
        obtain rfl := Option.some.inj h
        exact ⟨.inl rfl, by kernel_rfl, by kernel_rfl⟩
      · refine Wc.condF h156 (by kernel_rfl) ?_
        refine Wc.fix (st' := ⟨[], [], []⟩) [] [] [] [] (by kernel_rfl) ?_
        refine Wc.skip ?_
        apply Wc.seq
        refine Wc.region [] [] [4] [] [] ⟨[(4, (.v (.bool true), []))], [], []⟩ _ (by kernel_rfl) .nil ?_
        refine Wc.ret ?_
        obtain rfl := Option.some.inj h
        exact ⟨.inl rfl, by kernel_rfl, by kernel_rfl⟩

def plaws_markInsS_L1 (k : Nat) : Nat → Int → Int → (List GIns) → Option (Out ((List GIns) × Int) (Int × (List GIns)))
  | 0, _, _, _ => none
  | m + 1, v2, uw, zb =>
    if (decide (uw < (zb.length : Int))) = true then
      (at' zb uw).bind fun v1 =>
      (plaws_markText k (wr.i64 (v2 + 1))).bind fun u1l =>
      (at' (zb.set ((uw).toNat) (GIns.mk v2 v1.gName v1.gNum v1.gMany)) uw).bind fun ve =>
      (at' ((zb.set ((uw).toNat) (GIns.mk v2 v1.gName v1.gNum v1.gMany)).set ((uw).toNat) (GIns.mk ve.gOp u1l ve.gNum ve.gMany)) uw).bind fun z1 =>
      (at' (((zb.set ((uw).toNat) (GIns.mk v2 v1.gName v1.gNum v1.gMany)).set ((uw).toNat) (GIns.mk ve.gOp u1l ve.gNum ve.gMany)).set ((uw).toNat) (GIns.mk z1.gOp z1.gName (wr.i64 ((wr.i64 (v2 + 1)) + 1)) z1.gMany)) uw).bind fun u0p =>
      plaws_markInsS_L1 k m (wr.i64 ((wr.i64 ((wr.i64 ((wr.i64 (v2 + 1)) + 1)) + 1)) + 1)) (wr.i64 (uw + 1)) ((((zb.set ((uw).toNat) (GIns.mk v2 v1.gName v1.gNum v1.gMany)).set ((uw).toNat) (GIns.mk ve.gOp u1l ve.gNum ve.gMany)).set ((uw).toNat) (GIns.mk z1.gOp z1.gName (wr.i64 ((wr.i64 (v2 + 1)) + 1)) z1.gMany)).set ((uw).toNat) (GIns.mk u0p.gOp u0p.gName u0p.gNum (wr.i64 ((wr.i64 ((wr.i64 (v2 + 1)) + 1)) + 1))))
    else
      some (.done (v2, zb))
def plaws_markInsS (k : Nat) (u70 : List GIns) (u71 : Int) : Option ((List GIns) × Int) :=
  (plaws_markInsS_L1 k k u71 0 u70).bind fun out1 => match out1 with
  | .ret r => some r
  | .done (u72, u73) =>
    some (u73, u72)
theorem claws_markInsS {k : Nat} {u70 : List GIns} {u71 : Int} {r : (List GIns) × Int} (h : plaws_markInsS k u70 u71 = some r) : FnO Try.prog 85 [.io (.slx) [(0, .ex 1000000007 true (List.map GIns.c u70))], .v (.int .i64 u71) []] (.v (.int .i64 r.2) []) [(0, .v .undef [(0, .ex 1000000007 true (List.map GIns.c r.1))])] := by
  refine FnO.of Try.func85 (rfl : Try.f85.body = some _) (Nat.le_of_ble_eq_true (by kernel_rfl)) (Nat.le_of_ble_eq_true (by kernel_rfl)) ?_
  intro w0 X0 Fin pv0 pb
  unfold plaws_markInsS at h
  apply Wc.seq
  refine Wc.region [] [] [0, 1] [] [0] ⟨[(0, (.v (.slx), [(0, .al (.a 0 0) [])])), (1, (.v (.int .i64 u71), []))], [], [(0, [(0, .ex 1000000007 true (List.map GIns.c u70))])]⟩ _ (by kernel_rfl) .nil ?_
  apply Wc.seq
  apply Wc.seq
  refine Wc.region [] [] [0, 1, 5] [] [0] ⟨[(0, (.v (.slx), [(0, .al (.a 0 0) [])])), (1, (.v (.int .i64 u71), [])), (5, (.v (.int .i64 0), []))], [], [(0, [(0, .ex 1000000007 true (List.map GIns.c u70))])]⟩ _ (by kernel_rfl) .nil ?_
  obtain ⟨out1, h157, h⟩ := obind h
  refine Wc.lastJ (fun st => ∃ (u72 : Int) (u73 : List GIns), out1 = .done (u72, u73) ∧ st = ⟨[(1, (.v (.int .i64 u72), []))], [], [(0, [(0, .ex 1000000007 true (List.map GIns.c u73))])]⟩) ?_ ?_
  · refine Wc.block ?_
    refine Wc.loop (fun m st => ∃ (v2 : Int) (uw : Int) (zb : List GIns), st = ⟨[(0, (.v (.slx), [(0, .al (.a 0 0) [])])), (1, (.v (.int .i64 v2), [])), (5, (.v (.int .i64 uw), []))], [], [(0, [(0, .ex 1000000007 true (List.map GIns.c zb))])]⟩ ∧ plaws_markInsS_L1 k m v2 uw zb = some out1) ?_ k ⟨_, _, _, rfl, h157⟩
    rintro m st ⟨v2, uw, zb, rfl, h157⟩
    cases m with
    | zero => exact (onone h157).elim
    | succ m =>
      apply Wc.seq
      apply Wc.seq
      refine Wc.region [{}, {}, { v := some (.int .i64 (zb.length : Int)) }] [] [0, 1, 5, 9] [] [0] ⟨[(0, (.v (.slx), [(0, .al (.a 0 0) [])])), (1, (.v (.int .i64 v2), [])), (5, (.v (.int .i64 uw), [])), (9, (.v (.bool (decide (uw < (zb.length : Int)))), []))], [], [(0, [(0, .ex 1000000007 true (List.map GIns.c zb))])]⟩ _ (by kernel_rfl) (.cons (len_obl GIns.c zb) .nil) ?_
      rcases oif h157 with ⟨h158, h157⟩ | ⟨h158, h157⟩
      · refine Wc.condT h158 (by kernel_rfl) ?_
        refine Wc.fix (st' := ⟨[(0, (.v (.slx), [(0, .al (.a 0 0) [])])), (1, (.v (.int .i64 v2), [])), (5, (.v (.int .i64 uw), []))], [], [(0, [(0, .ex 1000000007 true (List.map GIns.c zb))])]⟩) [] [0, 1, 5] [] [0] (by kernel_rfl) ?_
        refine Wc.skip ?_
        apply Wc.seq
        refine Wc.block ?_
        apply Wc.seq
        obtain ⟨v1, h159, h157⟩ := obind h157
        refine Wc.region [{}, {}, {}, {}, {}, { c := some (List.map GIns.c (zb.set ((uw).toNat) (GIns.mk v2 v1.gName v1.gNum v1.gMany))) }] [] [0, 1, 5] [] [0] ⟨[(0, (.v (.slx), [(0, .al (.a 0 0) [])])), (1, (.v (.int .i64 v2), [])), (5, (.v (.int .i64 uw), []))], [], [(0, [(0, .ex 1000000007 true (List.map GIns.c (zb.set ((uw).toNat) (GIns.mk v2 v1.gName v1.gNum v1.gMany))))])]⟩ _ (by kernel_rfl) (.cons (ix_obl (c := GIns.c) GIns.c_len h159) (.cons (mod_obl (off := 0) (new := [.int .i64 v2]) (c := GIns.c) (GIns.c_eq v1) (GIns.c_eq (GIns.mk v2 v1.gName v1.gNum v1.gMany)) (at'_spec h159).2 rfl) (.cons (st_obl (sz := 4) (off := 0) (s := 1) (c := GIns.c) (GIns.c_eq v1) (at'_spec h159).2 rfl (Nat.le_of_ble_eq_true rfl)) .nil))) ?_
        apply Wc.seq
        refine Wc.region [] [] [0, 1, 5] [] [0] ⟨[(0, (.v (.slx), [(0, .al (.a 0 0) [])])), (1, (.v (.int .i64 (wr.i64 (v2 + 1))), [])), (5, (.v (.int .i64 uw), []))], [], [(0, [(0, .ex 1000000007 true (List.map GIns.c (zb.set ((uw).toNat) (GIns.mk v2 v1.gName v1.gNum v1.gMany))))])]⟩ _ (by kernel_rfl) .nil ?_
        apply Wc.seq
        obtain ⟨u1l, h160, h157⟩ := obind h157
        obtain ⟨ve, h161, h157⟩ := obind h157
        refine Wc.region [{}, {}, {}, { r := some (.v (.str u1l) []) }, {}, {}, { c := some (List.map GIns.c ((zb.set ((uw).toNat) (GIns.mk v2 v1.gName v1.gNum v1.gMany)).set ((uw).toNat) (GIns.mk ve.gOp u1l ve.gNum ve.gMany))) }] [] [0, 1, 5] [] [0] ⟨[(0, (.v (.slx), [(0, .al (.a 0 0) [])])), (1, (.v (.int .i64 (wr.i64 (v2 + 1))), [])), (5, (.v (.int .i64 uw), []))], [], [(0, [(0, .ex 1000000007 true (List.map GIns.c ((zb.set ((uw).toNat) (GIns.mk v2 v1.gName v1.gNum v1.gMany)).set ((uw).toNat) (GIns.mk ve.gOp u1l ve.gNum ve.gMany))))])]⟩ _ (by kernel_rfl) (.cons (claws_markText h160) (.cons (ix_obl (c := GIns.c) GIns.c_len h161) (.cons (mod_obl (off := 1) (new := [.str u1l]) (c := GIns.c) (GIns.c_eq ve) (GIns.c_eq (GIns.mk ve.gOp u1l ve.gNum ve.gMany)) (at'_spec h161).2 rfl) (.cons (st_obl (sz := 4) (off := 1) (s := 1) (c := GIns.c) (GIns.c_eq ve) (at'_spec h161).2 rfl (Nat.le_of_ble_eq_true rfl)) .nil)))) ?_
        apply Wc.seq
        refine Wc.region [] [] [0, 1, 5] [] [0] ⟨[(0, (.v (.slx), [(0, .al (.a 0 0) [])])), (1, (.v (.int .i64 (wr.i64 ((wr.i64 (v2 + 1)) + 1))), [])), (5, (.v (.int .i64 uw), []))], [], [(0, [(0, .ex 1000000007 true (List.map GIns.c ((zb.set ((uw).toNat) (GIns.mk v2 v1.gName v1.gNum v1.gMany)).set ((uw).toNat) (GIns.mk ve.gOp u1l ve.gNum ve.gMany))))])]⟩ _ (by kernel_rfl) .nil ?_
        apply Wc.seq
        obtain ⟨z1, h162, h157⟩ := obind h157
        refine Wc.region [{}, {}, {}, {}, {}, { c := some (List.map GIns.c (((zb.set ((uw).toNat) (GIns.mk v2 v1.gName v1.gNum v1.gMany)).set ((uw).toNat) (GIns.mk ve.gOp u1l ve.gNum ve.gMany)).set ((uw).toNat) (GIns.mk z1.gOp z1.gName (wr.i64 ((wr.i64 (v2 + 1)) + 1)) z1.gMany))) }] [] [0, 1, 5] [] [0] ⟨[(0, (.v (.slx), [(0, .al (.a 0 0) [])])), (1, (.v (.int .i64 (wr.i64 ((wr.i64 (v2 + 1)) + 1))), [])), (5, (.v (.int .i64 uw), []))], [], [(0, [(0, .ex 1000000007 true (List.map GIns.c (((zb.set ((uw).toNat) (GIns.mk v2 v1.gName v1.gNum v1.gMany)).set ((uw).toNat) (GIns.mk ve.gOp u1l ve.gNum ve.gMany)).set ((uw).toNat) (GIns.mk z1.gOp z1.gName (wr.i64 ((wr.i64 (v2 + 1)) + 1)) z1.gMany))))])]⟩ _ (by kernel_rfl) (.cons (ix_obl (c := GIns.c) GIns.c_len h162) (.cons (mod_obl (off := 2) (new := [.int .i64 (wr.i64 ((wr.i64 (v2 + 1)) + 1))]) (c := GIns.c) (GIns.c_eq z1) (GIns.c_eq (GIns.mk z1.gOp z1.gName (wr.i64 ((wr.i64 (v2 + 1)) + 1)) z1.gMany)) (at'_spec h162).2 rfl) (.cons (st_obl (sz := 4) (off := 2) (s := 1) (c := GIns.c) (GIns.c_eq z1) (at'_spec h162).2 rfl (Nat.le_of_ble_eq_true rfl)) .nil))) ?_
        apply Wc.seq
        refine Wc.region [] [] [0, 1, 5] [] [0] ⟨[(0, (.v (.slx), [(0, .al (.a 0 0) [])])), (1, (.v (.int .i64 (wr.i64 ((wr.i64 ((wr.i64 (v2 + 1)) + 1)) + 1))), [])), (5, (.v (.int .i64 uw), []))], [], [(0, [(0, .ex 1000000007 true (List.map GIns.c (((zb.set ((uw).toNat) (GIns.mk v2 v1.gName v1.gNum v1.gMany)).set ((uw).toNat) (GIns.mk ve.gOp u1l ve.gNum ve.gMany)).set ((uw).toNat) (GIns.mk z1.gOp z1.gName (wr.i64 ((wr.i64 (v2 + 1)) + 1)) z1.gMany))))])]⟩ _ (by kernel_rfl) .nil ?_
        apply Wc.seq
        obtain ⟨u0p, h163, h157⟩ := obind h157
        refine Wc.region [{}, {}, {}, {}, {}, { c := some (List.map GIns.c ((((zb.set ((uw).toNat) (GIns.mk v2 v1.gName v1.gNum v1.gMany)).set ((uw).toNat) (GIns.mk ve.gOp u1l ve.gNum ve.gMany)).set ((uw).toNat) (GIns.mk z1.gOp z1.gName (wr.i64 ((wr.i64 (v2 + 1)) + 1)) z1.gMany)).set ((uw).toNat) (GIns.mk u0p.gOp u0p.gName u0p.gNum (wr.i64 ((wr.i64 ((wr.i64 (v2 + 1)) + 1)) + 1))))) }] [] [0, 1, 5] [] [0] ⟨[(0, (.v (.slx), [(0, .al (.a 0 0) [])])), (1, (.v (.int .i64 (wr.i64 ((wr.i64 ((wr.i64 (v2 + 1)) + 1)) + 1))), [])), (5, (.v (.int .i64 uw), []))], [], [(0, [(0, .ex 1000000007 true (List.map GIns.c ((((zb.set ((uw).toNat) (GIns.mk v2 v1.gName v1.gNum v1.gMany)).set ((uw).toNat) (GIns.mk ve.gOp u1l ve.gNum ve.gMany)).set ((uw).toNat) (GIns.mk z1.gOp z1.gName (wr.i64 ((wr.i64 (v2 + 1)) + 1)) z1.gMany)).set ((uw).toNat) (GIns.mk u0p.gOp u0p.gName u0p.gNum (wr.i64 ((wr.i64 ((wr.i64 (v2 + 1)) + 1)) + 1))))))])]⟩ _ (by kernel_rfl) (.cons (ix_obl (c := GIns.c) GIns.c_len h163) (.cons (mod_obl (off := 3) (new := [.int .i64 (wr.i64 ((wr.i64 ((wr.i64 (v2 + 1)) + 1)) + 1))]) (c := GIns.c) (GIns.c_eq u0p) (GIns.c_eq (GIns.mk u0p.gOp u0p.gName u0p.gNum (wr.i64 ((wr.i64 ((wr.i64 (v2 + 1)) + 1)) + 1)))) (at'_spec h163).2 rfl) (.cons (st_obl (sz := 4) (off := 3) (s := 1) (c := GIns.c) (GIns.c_eq u0p) (at'_spec h163).2 rfl (Nat.le_of_ble_eq_true rfl)) .nil))) ?_
        refine Wc.region [] [] [0, 1, 5] [] [0] ⟨[(0, (.v (.slx), [(0, .al (.a 0 0) [])])), (1, (.v (.int .i64 (wr.i64 ((wr.i64 ((wr.i64 ((wr.i64 (v2 + 1)) + 1)) + 1)) + 1))), [])), (5, (.v (.int .i64 uw), []))], [], [(0, [(0, .ex 1000000007 true (List.map GIns.c ((((zb.set ((uw).toNat) (GIns.mk v2 v1.gName v1.gNum v1.gMany)).set ((uw).toNat) (GIns.mk ve.gOp u1l ve.gNum ve.gMany)).set ((uw).toNat) (GIns.mk z1.gOp z1.gName (wr.i64 ((wr.i64 (v2 + 1)) + 1)) z1.gMany)).set ((uw).toNat) (GIns.mk u0p.gOp u0p.gName u0p.gNum (wr.i64 ((wr.i64 ((wr.i64 (v2 + 1)) + 1)) + 1))))))])]⟩ _ (by kernel_rfl) .nil ?_
        refine Wc.region [] [] [0, 1, 5] [] [0] ⟨[(0, (.v (.slx), [(0, .al (.a 0 0) [])])), (1, (.v (.int .i64 (wr.i64 ((wr.i64 ((wr.i64 ((wr.i64 (v2 + 1)) + 1)) + 1)) + 1))), [])), (5, (.v (.int .i64 (wr.i64 (uw + 1))), []))], [], [(0, [(0, .ex 1000000007 true (List.map GIns.c ((((zb.set ((uw).toNat) (GIns.mk v2 v1.gName v1.gNum v1.gMany)).set ((uw).toNat) (GIns.mk ve.gOp u1l ve.gNum ve.gMany)).set ((uw).toNat) (GIns.mk z1.gOp z1.gName (wr.i64 ((wr.i64 (v2 + 1)) + 1)) z1.gMany)).set ((uw).toNat) (GIns.mk u0p.gOp u0p.gName u0p.gNum (wr.i64 ((wr.i64 ((wr.i64 (v2 + 1)) + 1)) + 1))))))])]⟩ _ (by kernel_rfl) .nil ?_
        exact ⟨_, Nat.lt_succ_self _, _, _, _, rfl, h157⟩
      · refine Wc.condF h158 (by kernel_rfl) ?_
        refine Wc.fix (st' := ⟨[(1, (.v (.int .i64 v2), []))], [], [(0, [(0, .ex 1000000007 true (List.map GIns.c zb))])]⟩) [] [1] [] [0] (by kernel_rfl) ?_
        refine Wc.exit ?_
        obtain rfl := Option.some.inj h157
        exact ⟨_, _, rfl, rfl⟩
  · rintro st ⟨u72, u73, rfl, rfl⟩
    apply Wc.seq
    refine Wc.region [] [] [4] [] [0] ⟨[(4, (.v (.int .i64 u72), []))], [], [(0, [(0, .ex 1000000007 true (List.map GIns.c u73))])]⟩ _ (by kernel_rfl) .nil ?_
    refine Wc.ret ?_
    obtain rfl := Option.some.inj h
    exact ⟨.inl rfl, by kernel_rfl, by kernel_rfl⟩
end Go.Proofs.Ytgfpmdaihkdhkaa

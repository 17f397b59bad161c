/- The law, plainly. -/
import Derived.Test.YtgfpmdaihkdhkaaFn
set_option linter.unusedVariables false
set_option linter.unusedSimpArgs false
namespace Go.Proofs.Ytgfpmdaihkdhkaa
open Go.RowKit Go.Bv
namespace FnExactStoreOf
/-- Room for the marks. -/
theorem markText_loop (k : Nat) : ∀ (j m : Nat) (b : Int) (e : ByteArray), j < m → 0 ≤ b → b < 2 ^ j → j ≤ 61 → e.size + j ≤ 1000 →
    ∃ s, plaws_markText_L1 k m b e = some (.done s) ∧ s.size ≤ 1000
  | j, 0, b, e, h1, _, _, _, _ => by omega
  | 0, m + 1, b, e, h1, h2, h3, h4, h5 => by
    unfold plaws_markText_L1
    rw [if_neg (by simp at h3 ⊢; omega)]
    exact ⟨e, rfl, by omega⟩
  | j + 1, m + 1, b, e, h1, h2, h3, h4, h5 => by
    unfold plaws_markText_L1
    by_cases hb : b > 0
    · have hp : (2 : Int) ^ (j + 1) = 2 * 2 ^ j := by rw [Int.pow_succ]; omega
      have hj : (2 : Int) ^ j ≤ 2 ^ 61 := by
        have : (2 : Nat) ^ j ≤ 2 ^ 61 := Nat.pow_le_pow_right (by omega) (by omega)
        exact_mod_cast this
      have hq : Int.tdiv b 10 = b / 10 := Int.tdiv_eq_ediv_of_nonneg h2
      have hs : (strOfNums [wr.u8 (wr.i64 (48 + (Int.tmod b 10)))]).size = 1 := rfl
      rw [if_pos (by simpa using hb), if_pos (by omega), if_pos (by unfold sumOk; rw [hs]; omega), if_pos (by omega), hq, wr_i64 (by omega) (by omega)]
      exact markText_loop k j m (b / 10) _ (by omega) (by omega) (by omega) (by omega) (by rw [ByteArray.size_append, hs]; omega)
    · rw [if_neg (by simpa using hb)]; exact ⟨e, rfl, by omega⟩

theorem markText {k : Nat} (hk : maxLen < k) (b : Int) (h0 : 0 ≤ b) (h1 : b ≤ Huge) : ∃ s, plaws_markText k b = some s := by
  unfold plaws_markText
  by_cases hb : b ≤ 0
  · rw [if_pos (by simpa using hb)]; exact ⟨_, rfl⟩
  · rw [if_neg (by simpa using hb)]
    rw [maxLen_eq] at hk
    have hH : Huge = 1152921504606846976 := rfl
    have hp : (2 : Int) ^ 61 = 2305843009213693952 := by decide
    obtain ⟨s, h2, h3⟩ := markText_loop k 61 k b (bs []) (by omega) h0 (by rw [hp]; omega) (by omega) (by have : (bs []).size = 0 := rfl; omega)
    rw [h2]
    simp only [Option.bind_some]
    rw [if_pos (by unfold sumOk; have : (bs [109]).size = 1 := rfl; omega)]
    exact ⟨_, rfl⟩
mutual
/-- How many terms stand in a term. -/
def nT : GTerm → Nat
  | .mk _ _ _ l => nTs l
def nTs : List GTerm → Nat
  | [] => 0
  | x :: l => 1 + nT x + nTs l
end
theorem nTs_eq : ∀ l : List GTerm, nTs l = nsum nT l
  | [] => by rw [nTs]; rfl
  | x :: l => by rw [nTs, nsum, nTs_eq l]
theorem nT_kids (x : GTerm) : nT x = nsum nT x.gKids := by
  cases x with
  | mk a b c l => rw [nT, nTs_eq]; rfl

theorem ok_kids {x : GTerm} (h : x.ok) : okL GTerm.ok x.gKids := by cases h with | mk a b c l h1 h2 h3 h4 h5 => exact ⟨h4, h5⟩
theorem ok_name {x : GTerm} (h : x.ok) : okFs x.gName := by cases h with | mk a b c l h1 h2 h3 h4 h5 => exact h2
theorem ok_kind {x : GTerm} (h : x.ok) : okI .i64 x.gKind := by cases h with | mk a b c l h1 h2 h3 h4 h5 => exact h1
theorem ok_num {x : GTerm} (h : x.ok) : okI .i64 x.gNum := by cases h with | mk a b c l h1 h2 h3 h4 h5 => exact h3

theorem mk_gKind (a : Int) (b : ByteArray) (c : Int) (l : List GTerm) : (GTerm.mk a b c l).gKind = a := rfl
theorem mk_gName (a : Int) (b : ByteArray) (c : Int) (l : List GTerm) : (GTerm.mk a b c l).gName = b := rfl
theorem mk_gNum (a : Int) (b : ByteArray) (c : Int) (l : List GTerm) : (GTerm.mk a b c l).gNum = c := rfl
theorem mk_gKids (a : Int) (b : ByteArray) (c : Int) (l : List GTerm) : (GTerm.mk a b c l).gKids = l := rfl
theorem szBoth : ∀ N k : Nat,
    (∀ l, maxLen + 2 * nsum nT l + 1 < k → nsum nT l ≤ N → okL GTerm.ok l → ∀ b : Int, 0 ≤ b → b ≤ Small → ∃ r, plaws_szTermS k l b = some r ∧ -1 ≤ r ∧ (0 ≤ r → r + (nsum nT l : Int) ≤ b)) ∧
    (∀ x, maxLen + 2 * nT x + 2 < k → nT x ≤ N → x.ok → ∀ b : Int, 0 ≤ b → b ≤ Small → ∃ r, plaws_szTerm k x b = some r ∧ -1 ≤ r ∧ (0 ≤ r → r + (nT x : Int) ≤ b))
  | N, 0 => ⟨fun l h => by omega, fun x h => by omega⟩
  | N, k + 1 => by
    obtain ⟨ih1, ih2⟩ := szBoth N k
    refine ⟨?_, ?_⟩
    · intro l hw hN hl b h0 h1
      exact sz2 (f := plaws_szTerm k) (L := plaws_szTermS_L1 k (plaws_szTerm k) (plaws_szTermS k) l) hl.1 (fun x hx b h0 h1 => by have := nsum_mem (n := nT) hx; exact ih2 x (by omega) (by omega) (hl.2 x hx) b h0 h1) (fun m b i => rfl) (by omega) b h0 h1
    · intro x hw hN hx b h0 h1
      have hn := ok_name hx
      unfold okFs at hn
      have h1' := h1
      unfold Small at h1'
      rw [maxLen_eq] at hn
      have hk := nT_kids x
      unfold plaws_szTerm
      rw [wr_i64 (by omega) (by omega)]
      split
      · exact ⟨_, rfl, by omega, by omega⟩
      · rename_i h
        simp at h
        obtain ⟨r, h2, h3, h4⟩ := ih1 x.gKids (by omega) (by omega) (ok_kids hx) (b - (x.gName.size : Int)) (by omega) (by unfold Small; omega)
        rw [h2]
        simp only [Option.bind_some]
        split
        · exact ⟨_, rfl, by omega, by omega⟩
        · exact ⟨_, rfl, h3, by omega⟩
theorem szTermS {k : Nat} {l : List GTerm} (hw : maxLen + 2 * nsum nT l + 2 < k) (hl : okL GTerm.ok l) (b : Int) (h0 : 0 ≤ b) (h1 : b ≤ Small) : ∃ r, plaws_szTermS k l b = some r ∧ -1 ≤ r ∧ (0 ≤ r → r + (nsum nT l : Int) ≤ b) :=
  (szBoth (nsum nT l) k).1 l (by omega) (Nat.le_refl _) hl b h0 h1
theorem szTerm {k : Nat} {x : GTerm} (hw : maxLen + 2 * nT x + 2 < k) (hx : x.ok) (b : Int) (h0 : 0 ≤ b) (h1 : b ≤ Small) : ∃ r, plaws_szTerm k x b = some r ∧ -1 ≤ r ∧ (0 ≤ r → r + (nT x : Int) ≤ b) :=
  (szBoth (nT x) k).2 x hw (Nat.le_refl _) hx b h0 h1

theorem toBoth : ∀ k : Nat, (∀ l, maxLen + 2 * nsum nT l + 1 < k → nsum nT l ≤ 1048576 → plaws_toTermS k l = some l) ∧ (∀ x, maxLen + 2 * nT x + 2 < k → nT x ≤ 1048576 → plaws_toTerm k x = some x)
  | 0 => ⟨fun l h => by omega, fun x h => by omega⟩
  | k + 1 => by
    obtain ⟨ih1, ih2⟩ := toBoth k
    refine ⟨?_, ?_⟩
    · intro l hw hl
      have := nsum_len nT l
      have h := to2 (f := plaws_toTerm k) (L := plaws_toTermS_L1 k (plaws_toTerm k) (plaws_toTermS k) l) (by omega) (fun x hx => by have := nsum_mem (n := nT) hx; exact ih2 x (by omega) (by omega)) (fun m i o => rfl) (k := k) (by omega) (GTerm.mk 0 (bs []) 0 [])
      unfold plaws_toTermS
      rw [if_pos h.1, h.2]; rfl
    · intro x hw hx
      have hk := nT_kids x
      unfold plaws_toTerm
      rw [ih1 x.gKids (by omega) (by omega)]
      cases x; rfl
theorem toTermS {k : Nat} {l : List GTerm} (hw : maxLen + 2 * nsum nT l + 2 < k) (hl : nsum nT l ≤ 1048576) : plaws_toTermS k l = some l := (toBoth k).1 l (by omega) hl
theorem toTerm {k : Nat} {x : GTerm} (hw : maxLen + 2 * nT x + 2 < k) (hl : nT x ≤ 1048576) : plaws_toTerm k x = some x := (toBoth k).2 x hw hl

theorem eqBoth : ∀ k : Nat, (∀ l, maxLen + 2 * nsum nT l + 1 < k → nsum nT l ≤ Huge → plaws_eqTermS k l l = some true) ∧ (∀ x, maxLen + 2 * nT x + 2 < k → nT x ≤ Huge → plaws_eqTerm k x x = some true)
  | 0 => ⟨fun l h => by omega, fun x h => by omega⟩
  | k + 1 => by
    obtain ⟨ih1, ih2⟩ := eqBoth k
    refine ⟨?_, ?_⟩
    · intro l hw hl
      have := nsum_len nT l
      exact eq2 (f := plaws_eqTerm k) (L := plaws_eqTermS_L1 k (plaws_eqTerm k) (plaws_eqTermS k) l l) (by omega) (fun x hx => by have := nsum_mem (n := nT) hx; exact ih2 x (by omega) (by omega)) (fun m i => rfl) (by omega)
    · intro x hw hx
      have hk := nT_kids x
      unfold plaws_eqTerm
      rw [ih1 x.gKids (by omega) (by omega)]
      simp [sEq_refl]
theorem eqTermS {k : Nat} {l : List GTerm} (hw : maxLen + 2 * nsum nT l + 2 < k) (hl : nsum nT l ≤ Huge) : plaws_eqTermS k l l = some true := (eqBoth k).1 l (by omega) hl
theorem eqTerm {k : Nat} {x : GTerm} (hw : maxLen + 2 * nT x + 2 < k) (hl : nT x ≤ Huge) : plaws_eqTerm k x x = some true := (eqBoth k).2 x hw hl
theorem markTermS1 : ∀ (k : Nat) (l : List GTerm), maxLen + 2 * nsum nT l + 1 < k → ∀ b : Int, 1 ≤ b → b + 16 * (nsum nT l : Int) ≤ Huge →
    ∃ l' c, plaws_markTermS k l b = some (l', c) ∧ plaws_heldTermS k l' b = some c ∧ b ≤ c ∧ c ≤ b + 16 * (nsum nT l : Int)
  | 0, l, h => by omega
  | k + 1, l, hw => by
    intro b h1 h2
    have hH : Huge = 1152921504606846976 := rfl
    have key := mark2 (n := nT) (ok := fun x => maxLen + 2 * nT x + 1 < k)
      (good := fun b x c => 1 ≤ b ∧ b ≤ c ∧ c ≤ Huge ∧ x.gKind = b ∧ plaws_markText k (b + 1) = some x.gName ∧ x.gNum = b + 2 ∧ b + 3 ≤ Huge ∧ plaws_heldTermS k x.gKids (b + 3) = some c)
      (L := plaws_markTermS_L1 k (plaws_markTermS k)) (H := plaws_heldTermS_L1 k (plaws_heldTermS k))
      (fun m b l => by unfold plaws_markTermS_L1; rw [if_neg (by simp)])
      (fun m b j l x hx hj hat h1 h2 => by
        have hk := nT_kids x
        obtain ⟨s, hs⟩ := markText (k := k) (by omega) (b + 1) (by omega) (by omega)
        obtain ⟨l', c, e1, e2, e3, e4⟩ := markTermS1 k x.gKids (by omega) (b + 3) (by omega) (by omega)
        refine ⟨.mk b s (b + 2) l', c, ⟨h1, by omega, by omega, rfl, hs, rfl, by omega, e2⟩, by omega, by omega, fun hlt => ?_⟩
        have w1 : wr.i64 (b + 1) = b + 1 := by have := wr_i64 (x := b + 1) (by omega) (by omega); omega
        have w2 : wr.i64 (b + 1 + 1) = b + 2 := by have := wr_i64 (x := b + 1 + 1) (by omega) (by omega); omega
        have w3 : wr.i64 (b + 2 + 1) = b + 3 := by have := wr_i64 (x := b + 2 + 1) (by omega) (by omega); omega
        have hset : ∀ (l : List GTerm) (y z : GTerm), at' l (j : Int) = some y → at' (l.set ((j : Int)).toNat z) (j : Int) = some z := fun l y z h => at_is h
        rw [plaws_markTermS_L1, if_pos (by simpa using hlt), hat]
        simp only [Option.bind_some, w1, w2, w3, hs]
        rw [hset _ _ _ hat]
        simp only [Option.bind_some]
        rw [hset _ _ _ (hset _ _ _ hat)]
        simp only [Option.bind_some]
        rw [hset _ _ _ (hset _ _ _ (hset _ _ _ hat))]
        simp only [Option.bind_some, mk_gKids, mk_gKind, mk_gName, mk_gNum]
        simp only [e1, Option.bind_some, cast_succ hj, List.set_set, Int.toNat_natCast])
      (fun l m b => by unfold plaws_heldTermS_L1; rw [if_neg (by simp)])
      (fun l m b c j x hj hat hg hlt => by
        obtain ⟨h1, h2, h3, h4, h5, h6, h7, h8⟩ := hg
        have w1 : wr.i64 (b + 1) = b + 1 := by have := wr_i64 (x := b + 1) (by omega) (by omega); omega
        have w2 : wr.i64 (b + 1 + 1) = b + 2 := by have := wr_i64 (x := b + 1 + 1) (by omega) (by omega); omega
        have w3 : wr.i64 (b + 2 + 1) = b + 3 := by have := wr_i64 (x := b + 2 + 1) (by omega) (by omega); omega
        rw [plaws_heldTermS_L1, if_pos (by simpa using hlt), hat]
        simp only [Option.bind_some, w1, w2, w3]
        rw [if_neg (by simp [h4]), h5]
        simp only [Option.bind_some]
        rw [if_neg (by simp [sEq_refl]), if_neg (by simp [h6]), h8]
        simp only [Option.bind_some]
        rw [if_neg (by simp; omega), cast_succ hj])
      (k := k) (by omega) l (fun x hx => by have := nsum_mem (n := nT) hx; omega) b h1 h2
    obtain ⟨l', c, e1, e2, e3, e4⟩ := key
    refine ⟨l', c, ?_, ?_, e3, e4⟩
    · unfold plaws_markTermS; rw [e1]; rfl
    · unfold plaws_heldTermS; rw [e2]; rfl
theorem markTermS {k : Nat} {l : List GTerm} (hw : maxLen + 2 * nsum nT l + 2 < k) (b : Int) (h1 : 1 ≤ b) (h2 : b + 16 * (nsum nT l : Int) ≤ Huge) :
    ∃ l' c, plaws_markTermS k l b = some (l', c) ∧ plaws_heldTermS k l' b = some c ∧ b ≤ c ∧ c ≤ b + 16 * (nsum nT l : Int) := markTermS1 k l (by omega) b h1 h2
theorem plaws_toTermS_dd : @plaws_toTermS_d = @plaws_toTermS := by kernel_rfl

theorem plaws_toTerm_dd : @plaws_toTerm_d = @plaws_toTerm := by kernel_rfl

def nClause (x : GClause) : Nat := nT x.gHead + nT x.gBody

theorem szClause {k : Nat} {x : GClause} (hw : maxLen + 2 * (nClause x) + 2 < k) (hx : x.ok) (b : Int) (h0 : 0 ≤ b) (h1 : b ≤ Small) : ∃ r, plaws_szClause k x b = some r ∧ -1 ≤ r ∧ (0 ≤ r → r + (nClause x : Int) ≤ b) := by
  unfold nClause at *
  unfold plaws_szClause
  have hS : Small = 1048576 := rfl
  obtain ⟨r1, e1, l1, u1⟩ := szTerm (k := k) (x := x.gHead) (by omega) hx.1 b h0 (by omega)
  rw [e1]
  simp only [Option.bind_some]
  by_cases c1 : r1 < 0
  · rw [if_pos (by simpa using c1)]; exact ⟨_, rfl, by omega, by omega⟩
  rw [if_neg (by simpa using c1)]
  obtain ⟨r2, e2, l2, u2⟩ := szTerm (k := k) (x := x.gBody) (by omega) hx.2.1 r1 (by omega) (by omega)
  rw [e2]
  simp only [Option.bind_some]
  by_cases c2 : r2 < 0
  · rw [if_pos (by simpa using c2)]; exact ⟨_, rfl, by omega, by omega⟩
  rw [if_neg (by simpa using c2)]
  have hs3 : x.gFile.size ≤ 9223372036854775807 := by have := hx.2.2; unfold okFs at this; rw [maxLen_eq] at this; exact this
  have hr3 : wr.i64 (r2 - (x.gFile.size : Int)) = (r2 - (x.gFile.size : Int)) := wr_i64 (by omega) (by omega)
  rw [hr3]
  by_cases c3 : (r2 - (x.gFile.size : Int)) < 0
  · rw [if_pos (by simpa using c3)]; exact ⟨_, rfl, by omega, by omega⟩
  rw [if_neg (by simpa using c3)]
  exact ⟨_, rfl, by omega, fun h => by omega⟩

theorem toClause {k : Nat} {x : GClause} (hw : maxLen + 2 * (nClause x) + 2 < k) (hx : nClause x ≤ 1048576) : plaws_toClause k x = some x := by
  unfold nClause at *
  unfold plaws_toClause
  rw [toTerm (k := k) (x := x.gHead) (by omega) (by omega)]
  simp only [Option.bind_some]
  rw [toTerm (k := k) (x := x.gBody) (by omega) (by omega)]
  simp only [Option.bind_some]

theorem plaws_toClause_dd : @plaws_toClause_d = @plaws_toClause := by kernel_rfl

theorem eqClause {k : Nat} {x : GClause} (hw : maxLen + 2 * (nClause x) + 2 < k) (hx : nClause x ≤ Huge) : plaws_eqClause k x x = some true := by
  unfold nClause at *
  unfold plaws_eqClause
  rw [eqTerm (k := k) (x := x.gHead) (by omega) (by omega)]
  rw [eqTerm (k := k) (x := x.gBody) (by omega) (by omega)]
  simp [sEq_refl]

theorem szClauseS {k : Nat} {l : List GClause} (hw : maxLen + 2 * (nsum nClause l) + 2 < k) (hl : okL (GClause.ok) l) (b : Int) (h0 : 0 ≤ b) (h1 : b ≤ Small) : ∃ r, plaws_szClauseS k l b = some r ∧ -1 ≤ r ∧ (0 ≤ r → r + (nsum nClause l : Int) ≤ b) := by
  exact sz2 (f := plaws_szClause k) (L := plaws_szClauseS_L1 k l) hl.1 (fun x hx b h0 h1 => by have := nsum_mem (n := nClause) hx; exact szClause (by omega) (hl.2 x hx) b h0 h1) (fun m b i => rfl) (by omega) b h0 h1

theorem toClauseS {k : Nat} {l : List GClause} (hw : maxLen + 2 * (nsum nClause l) + 2 < k) (hl : nsum nClause l ≤ 1048576) : plaws_toClauseS k l = some l := by
  have := nsum_len nClause l
  have h := to2 (f := plaws_toClause k) (L := plaws_toClauseS_L1 k l) (by omega) (fun x hx => by have := nsum_mem (n := nClause) hx; exact toClause (by omega) (by omega)) (fun m i o => rfl) (k := k) (by omega) (GClause.mk (GTerm.mk 0 (bs []) 0 []) (GTerm.mk 0 (bs []) 0 []) (bs []))
  unfold plaws_toClauseS
  rw [if_pos h.1, h.2]; rfl

theorem plaws_toClauseS_dd : @plaws_toClauseS_d = @plaws_toClauseS := by kernel_rfl

theorem eqClauseS {k : Nat} {l : List GClause} (hw : maxLen + 2 * (nsum nClause l) + 2 < k) (hl : nsum nClause l ≤ Huge) : plaws_eqClauseS k l l = some true := by
  have := nsum_len nClause l
  exact eq2 (f := plaws_eqClause k) (L := plaws_eqClauseS_L1 k l l) (by omega) (fun x hx => by have := nsum_mem (n := nClause) hx; exact eqClause (by omega) (by omega)) (fun m i => rfl) (k := k) (by omega)

theorem markClauseS {k : Nat} {l : List GClause} (hw : maxLen + 2 * (nsum nClause l) + 2 < k) (b : Int) (h1 : 1 ≤ b) (h2 : b + 16 * (nsum nClause l : Int) ≤ Huge) :
    ∃ l' c, plaws_markClauseS k l b = some (l', c) ∧ b ≤ c ∧ c ≤ b + 16 * (nsum nClause l : Int) := by
  have hm : maxLen = 9223372036854775807 := maxLen_eq
  have hH : Huge = 1152921504606846976 := rfl
  have h3 : (if (3 : Int) ≠ 0 then True else False) = True := by decide
  have hlen := nsum_len nClause l
  have key := mark1 (n := nClause) (ok := fun x => maxLen + 2 * (nClause x) + 2 < k)

    (L := plaws_markClauseS_L1 k)
    (fun m b l => by unfold plaws_markClauseS_L1; rw [if_neg (by simp)])
    (fun m b j l x hx hj hat h1 h2 => by
      try unfold nClause at *
      have hg0 := nT_kids x.gHead
      have hg1 := nT_kids x.gBody
      obtain ⟨s1, t1⟩ := markText (k := k) (by omega) (b + 1) (by omega) (by omega)
      obtain ⟨y0, c0, e0, f0, l0, u0⟩ := markTermS (k := k) (l := x.gHead.gKids) (by omega) (b + 3) (by omega) (by omega)
      obtain ⟨s2, t2⟩ := markText (k := k) (by omega) (c0 + 1) (by omega) (by omega)
      obtain ⟨y1, c1, e1, f1, l1, u1⟩ := markTermS (k := k) (l := x.gBody.gKids) (by omega) (c0 + 3) (by omega) (by omega)
      obtain ⟨s3, t3⟩ := markText (k := k) (by omega) c1 (by omega) (by omega)
      refine ⟨(GClause.mk (GTerm.mk b s1 (b + 2) y0) (GTerm.mk c0 s2 (c0 + 2) y1) s3), (c1 + 1), (by omega), (by omega), fun hlt => ?_⟩
      have w0 : wr.i64 (b + 1) = b + 1 := by have := wr_i64 (x := b + 1) (by omega) (by omega); omega
      have w1 : wr.i64 (b + 1 + 1) = b + 2 := by have := wr_i64 (x := b + 1 + 1) (by omega) (by omega); omega
      have w2 : wr.i64 (b + 2 + 1) = b + 3 := by have := wr_i64 (x := b + 2 + 1) (by omega) (by omega); omega
      have w3 : wr.i64 (c0 + 1) = c0 + 1 := by have := wr_i64 (x := c0 + 1) (by omega) (by omega); omega
      have w4 : wr.i64 (c0 + 1 + 1) = c0 + 2 := by have := wr_i64 (x := c0 + 1 + 1) (by omega) (by omega); omega
      have w5 : wr.i64 (c0 + 2 + 1) = c0 + 3 := by have := wr_i64 (x := c0 + 2 + 1) (by omega) (by omega); omega
      have w6 : wr.i64 (c1 + 1) = c1 + 1 := by have := wr_i64 (x := c1 + 1) (by omega) (by omega); omega
      have hat' : (at' l (j : Int)).isSome = true := by rw [hat]; rfl
      rw [plaws_markClauseS_L1, if_pos (by simpa using hlt)]
      simp only [hat, hat', Option.isSome_some, Option.bind_some, w0, w1, w2, w3, w4, w5, w6, t1, e0, t2, e1, t3, at_set, at_set_some, cast_succ hj, List.set_set, Int.toNat_natCast, if3, mk_gKids, mk_gKind, mk_gName, mk_gNum]
)
    (k := k) (by omega) l (fun x hx => by have := nsum_mem (n := nClause) hx; omega) b h1 h2
  obtain ⟨l', c, e1, e3, e4⟩ := key
  refine ⟨l', c, ?_, e3, e4⟩
  unfold plaws_markClauseS; rw [e1]; rfl

def nIns (x : GIns) : Nat := 0

theorem eqIns {k : Nat} {x : GIns} (hw : maxLen + 2 * (nIns x) + 2 < k) (hx : nIns x ≤ Huge) : plaws_eqIns k x x = some true := by
  unfold nIns at *
  unfold plaws_eqIns
  simp [sEq_refl]

theorem eqInsS {k : Nat} {l : List GIns} (hw : maxLen + 2 * (nsum nIns l) + 2 < k) (hl : nsum nIns l ≤ Huge) : plaws_eqInsS k l l = some true := by
  have := nsum_len nIns l
  exact eq2 (f := plaws_eqIns k) (L := plaws_eqInsS_L1 k l l) (by omega) (fun x hx => by have := nsum_mem (n := nIns) hx; exact eqIns (by omega) (by omega)) (fun m i => rfl) (k := k) (by omega)

theorem markInsS {k : Nat} {l : List GIns} (hw : maxLen + 2 * (nsum nIns l) + 2 < k) (b : Int) (h1 : 1 ≤ b) (h2 : b + 16 * (nsum nIns l : Int) ≤ Huge) :
    ∃ l' c, plaws_markInsS k l b = some (l', c) ∧ plaws_heldInsS k l' b = some c ∧ b ≤ c ∧ c ≤ b + 16 * (nsum nIns l : Int) := by
  have hm : maxLen = 9223372036854775807 := maxLen_eq
  have hH : Huge = 1152921504606846976 := rfl
  have h3 : (if (3 : Int) ≠ 0 then True else False) = True := by decide
  have hlen := nsum_len nIns l
  have key := mark2 (n := nIns) (ok := fun x => maxLen + 2 * (nIns x) + 2 < k)
    (good := fun b x c => 1 ≤ b ∧ c ≤ Huge ∧ c = (b + 4) ∧ x.gOp = b ∧ plaws_markText k (b + 1) = some x.gName ∧ x.gNum = (b + 2) ∧ x.gMany = (b + 3))
    (L := plaws_markInsS_L1 k) (H := plaws_heldInsS_L1 k)
    (fun m b l => by unfold plaws_markInsS_L1; rw [if_neg (by simp)])
    (fun m b j l x hx hj hat h1 h2 => by
      try unfold nIns at *
      obtain ⟨s1, t1⟩ := markText (k := k) (by omega) (b + 1) (by omega) (by omega)
      refine ⟨(GIns.mk b s1 (b + 2) (b + 3)), (b + 4), ⟨h1, (by omega), rfl, rfl, t1, rfl, rfl⟩, (by omega), (by omega), fun hlt => ?_⟩
      have w0 : wr.i64 (b + 1) = b + 1 := by have := wr_i64 (x := b + 1) (by omega) (by omega); omega
      have w1 : wr.i64 (b + 1 + 1) = b + 2 := by have := wr_i64 (x := b + 1 + 1) (by omega) (by omega); omega
      have w2 : wr.i64 (b + 2 + 1) = b + 3 := by have := wr_i64 (x := b + 2 + 1) (by omega) (by omega); omega
      have w3 : wr.i64 (b + 3 + 1) = b + 4 := by have := wr_i64 (x := b + 3 + 1) (by omega) (by omega); omega
      have hat' : (at' l (j : Int)).isSome = true := by rw [hat]; rfl
      rw [plaws_markInsS_L1, if_pos (by simpa using hlt)]
      simp only [hat, hat', Option.isSome_some, Option.bind_some, w0, w1, w2, w3, t1, at_set, at_set_some, cast_succ hj, List.set_set, Int.toNat_natCast, if3])
    (fun l m b => by unfold plaws_heldInsS_L1; rw [if_neg (by simp)])
    (fun l m b c j x hj hat hg hlt => by
      obtain ⟨g1, g2, g3, k0, k1, k2, k3⟩ := hg
      have w0 : wr.i64 (b + 1) = b + 1 := by have := wr_i64 (x := b + 1) (by omega) (by omega); omega
      have w1 : wr.i64 (b + 1 + 1) = b + 2 := by have := wr_i64 (x := b + 1 + 1) (by omega) (by omega); omega
      have w2 : wr.i64 (b + 2 + 1) = b + 3 := by have := wr_i64 (x := b + 2 + 1) (by omega) (by omega); omega
      have w3 : wr.i64 (b + 3 + 1) = b + 4 := by have := wr_i64 (x := b + 3 + 1) (by omega) (by omega); omega
      have hc : ∀ c : Int, 1 ≤ c → (decide (c < 0)) = false := fun c h => by simpa using (by omega : 0 ≤ c)
      rw [plaws_heldInsS_L1, if_pos (by simpa using hlt)]
      simp only [hat, Option.bind_some, w0, w1, w2, w3, k0, k1, k2, k3, bne_self_eq_false, beq_self_eq_true, sEq_refl, Bool.not_true, Bool.false_eq_true, if_false, cast_succ hj, if3, g3])
    (k := k) (by omega) l (fun x hx => by have := nsum_mem (n := nIns) hx; omega) b h1 h2
  obtain ⟨l', c, e1, e2, e3, e4⟩ := key
  refine ⟨l', c, ?_, ?_, e3, e4⟩
  · unfold plaws_markInsS; rw [e1]; rfl
  · unfold plaws_heldInsS; rw [e2]; rfl

def nCode (x : GCode) : Nat := nsum nIns x.gHead + nsum nIns x.gBody

theorem eqCode {k : Nat} {x : GCode} (hw : maxLen + 2 * (nCode x) + 2 < k) (hx : nCode x ≤ Huge) : plaws_eqCode k x x = some true := by
  unfold nCode at *
  unfold plaws_eqCode
  rw [eqInsS (k := k) (l := x.gHead) (by omega) (by omega)]
  rw [eqInsS (k := k) (l := x.gBody) (by omega) (by omega)]
  simp [sEq_refl]

theorem szStringS {k : Nat} {l : List ByteArray} (hw : maxLen + 2 * (nsum (fun _ => 0) l) + 2 < k) (hl : okL (okFs) l) (b : Int) (h0 : 0 ≤ b) (h1 : b ≤ Small) : ∃ r, plaws_szStringS k l b = some r ∧ -1 ≤ r ∧ (0 ≤ r → r + (nsum (fun _ => 0) l : Int) ≤ b) := by
  exact sz2 (f := fun x b => if (decide ((wr.i64 (b - (x.size : Int))) < 0)) = true then some (-1) else some (wr.i64 (b - (x.size : Int)))) (L := plaws_szStringS_L1 k l) hl.1 (fun x hx b h0 h1 => by
    have hs := hl.2 x hx
    unfold okFs at hs
    rw [maxLen_eq] at hs
    unfold Small at h1
    rw [wr_i64 (by omega) (by omega)]
    split
    · exact ⟨_, rfl, by omega, by omega⟩
    · rename_i h; simp at h; exact ⟨_, rfl, by omega, fun _ => by omega⟩) (fun m b i => by
    rw [plaws_szStringS_L1]
    by_cases c : i < (l.length : Int)
    · rw [if_pos (by simpa using c), if_pos (by simpa using c)]
      cases at' l i with
      | none => rfl
      | some x =>
        by_cases d : wr.i64 (b - (x.size : Int)) < 0
        · simp only [Option.bind_some]
          rw [if_pos (by simpa using d), if_pos (by simpa using d)]; rfl
        · simp only [Option.bind_some]
          rw [if_neg (by simpa using d), if_neg (by simpa using d)]
          simp only [Option.bind_some]
          rw [if_neg (by simpa using d)]
    · rw [if_neg (by simpa using c), if_neg (by simpa using c)]) (k := k) (by omega) b h0 h1

theorem toStringS {k : Nat} {l : List ByteArray} (hw : maxLen + 2 * (nsum (fun _ => 0) l) + 2 < k) (hl : nsum (fun _ => 0) l ≤ 1048576) : plaws_toStringS k l = some l := by
  have := nsum_len (fun _ => 0) l
  have h := to2_flat (L := plaws_toStringS_L1 k l) (by omega) (fun m i o => rfl) (k := k) (by omega) (bs [])
  unfold plaws_toStringS
  rw [if_pos h.1, h.2]; rfl

theorem plaws_toStringS_dd : @plaws_toStringS_d = @plaws_toStringS := by kernel_rfl

theorem eqStringS {k : Nat} {l : List ByteArray} (hw : maxLen + 2 * (nsum (fun _ => 0) l) + 2 < k) (hl : nsum (fun _ => 0) l ≤ Huge) : plaws_eqStringS k l l = some true := by
  have := nsum_len (fun _ => 0) l
  exact eq2_flat (ne := fun x y => !(sEq x y)) (L := plaws_eqStringS_L1 k l l) (by omega) (fun x => by simp [sEq_refl]) (fun m i => rfl) (k := k) (by omega)

theorem markStringS {k : Nat} {l : List ByteArray} (hw : maxLen + 2 * (nsum (fun _ => 0) l) + 2 < k) (b : Int) (h1 : 1 ≤ b) (h2 : b + 16 * (nsum (fun _ => 0) l : Int) ≤ Huge) :
    ∃ l' c, plaws_markStringS k l b = some (l', c) ∧ plaws_heldStringS k l' b = some c ∧ b ≤ c ∧ c ≤ b + 16 * (nsum (fun _ => 0) l : Int) := by
  have hm : maxLen = 9223372036854775807 := maxLen_eq
  have hH : Huge = 1152921504606846976 := rfl
  have h3 : (if (3 : Int) ≠ 0 then True else False) = True := by decide
  have hlen := nsum_len (fun _ => 0) l
  have key := mark2 (n := (fun _ => 0)) (ok := fun x => maxLen + 2 * 0 + 2 < k)
    (good := fun b x c => 1 ≤ b ∧ c ≤ Huge ∧ c = (b + 1) ∧ plaws_markText k b = some x)
    (L := plaws_markStringS_L1 k) (H := plaws_heldStringS_L1 k)
    (fun m b l => by unfold plaws_markStringS_L1; rw [if_neg (by simp)])
    (fun m b j l x hx hj hat h1 h2 => by
      skip
      obtain ⟨s1, t1⟩ := markText (k := k) (by omega) b (by omega) (by omega)
      refine ⟨s1, (b + 1), ⟨h1, (by omega), rfl, t1⟩, (by omega), (by omega), fun hlt => ?_⟩
      have w0 : wr.i64 (b + 1) = b + 1 := by have := wr_i64 (x := b + 1) (by omega) (by omega); omega
      have hat' : (at' l (j : Int)).isSome = true := by rw [hat]; rfl
      rw [plaws_markStringS_L1, if_pos (by simpa using hlt)]
      simp only [hat, hat', Option.isSome_some, Option.bind_some, w0, t1, at_set, at_set_some, cast_succ hj, List.set_set, Int.toNat_natCast, if3])
    (fun l m b => by unfold plaws_heldStringS_L1; rw [if_neg (by simp)])
    (fun l m b c j x hj hat hg hlt => by
      obtain ⟨g1, g2, g3, k0⟩ := hg
      have w0 : wr.i64 (b + 1) = b + 1 := by have := wr_i64 (x := b + 1) (by omega) (by omega); omega
      have hc : ∀ c : Int, 1 ≤ c → (decide (c < 0)) = false := fun c h => by simpa using (by omega : 0 ≤ c)
      rw [plaws_heldStringS_L1, if_pos (by simpa using hlt)]
      simp only [hat, Option.bind_some, w0, k0, bne_self_eq_false, beq_self_eq_true, sEq_refl, Bool.not_true, Bool.false_eq_true, if_false, cast_succ hj, if3, g3])
    (k := k) (by omega) l (fun x hx => by have := nsum_mem (n := (fun _ => 0)) hx; omega) b h1 h2
  obtain ⟨l', c, e1, e2, e3, e4⟩ := key
  refine ⟨l', c, ?_, ?_, e3, e4⟩
  · unfold plaws_markStringS; rw [e1]; rfl
  · unfold plaws_heldStringS; rw [e2]; rfl

def nDb (x : GDb) : Nat := nsum nClause x.gClauses + nsum (fun _ => 0) x.gOpen

theorem szDb {k : Nat} {x : GDb} (hw : maxLen + 2 * (nDb x) + 2 < k) (hx : x.ok) (b : Int) (h0 : 0 ≤ b) (h1 : b ≤ Small) : ∃ r, plaws_szDb k x b = some r ∧ -1 ≤ r ∧ (0 ≤ r → r + (nDb x : Int) ≤ b) := by
  unfold nDb at *
  unfold plaws_szDb
  have hS : Small = 1048576 := rfl
  obtain ⟨r1, e1, l1, u1⟩ := szClauseS (k := k) (l := x.gClauses) (by omega) hx.1 b h0 (by omega)
  rw [e1]
  simp only [Option.bind_some]
  by_cases c1 : r1 < 0
  · rw [if_pos (by simpa using c1)]; exact ⟨_, rfl, by omega, by omega⟩
  rw [if_neg (by simpa using c1)]
  obtain ⟨r2, e2, l2, u2⟩ := szStringS (k := k) (l := x.gOpen) (by omega) hx.2 r1 (by omega) (by omega)
  rw [e2]
  simp only [Option.bind_some]
  by_cases c2 : r2 < 0
  · rw [if_pos (by simpa using c2)]; exact ⟨_, rfl, by omega, by omega⟩
  rw [if_neg (by simpa using c2)]
  exact ⟨_, rfl, by omega, fun h => by omega⟩

theorem toDb {k : Nat} {x : GDb} (hw : maxLen + 2 * (nDb x) + 2 < k) (hx : nDb x ≤ 1048576) : plaws_toDb k x = some x := by
  unfold nDb at *
  unfold plaws_toDb
  rw [toClauseS (k := k) (l := x.gClauses) (by omega) (by omega)]
  simp only [Option.bind_some]
  rw [toStringS (k := k) (l := x.gOpen) (by omega) (by omega)]
  simp only [Option.bind_some]

theorem plaws_toDb_dd : @plaws_toDb_d = @plaws_toDb := by kernel_rfl

theorem eqDb {k : Nat} {x : GDb} (hw : maxLen + 2 * (nDb x) + 2 < k) (hx : nDb x ≤ Huge) : plaws_eqDb k x x = some true := by
  unfold nDb at *
  unfold plaws_eqDb
  rw [eqClauseS (k := k) (l := x.gClauses) (by omega) (by omega)]
  rw [eqStringS (k := k) (l := x.gOpen) (by omega) (by omega)]
  simp [sEq_refl]

theorem markDb {k : Nat} {x : GDb} (hw : maxLen + 2 * (nDb x) + 2 < k) (b : Int) (h1 : 1 ≤ b) (h2 : b + 16 * (nDb x : Int) ≤ Huge) :
    ∃ y c, plaws_markDb k x b = some (y, c) ∧ b ≤ c ∧ c ≤ b + 16 * (nDb x : Int) := by
  unfold nDb at *
  obtain ⟨y0, c0, e0, l0, u0⟩ := markClauseS (k := k) (l := x.gClauses) (by omega) b (by omega) (by omega)
  obtain ⟨y1, c1, e1, f1, l1, u1⟩ := markStringS (k := k) (l := x.gOpen) (by omega) c0 (by omega) (by omega)
  have hc : ∀ c : Int, 1 ≤ c → (decide (c < 0)) = false := fun c h => by simpa using (by omega : 0 ≤ c)
  refine ⟨GDb.mk y0 y1, c1, ?_, (by omega), (by omega)⟩
  · unfold plaws_markDb; simp only [e0, e1, Option.bind_some, mk_gKids]

def nKept (x : GKept) : Nat := nClause x.gClause + nCode x.gCode

theorem eqKept {k : Nat} {x : GKept} (hw : maxLen + 2 * (nKept x) + 2 < k) (hx : nKept x ≤ Huge) : plaws_eqKept k x x = some true := by
  unfold nKept at *
  unfold plaws_eqKept
  rw [eqClause (k := k) (x := x.gClause) (by omega) (by omega)]
  rw [eqCode (k := k) (x := x.gCode) (by omega) (by omega)]
  simp [sEq_refl]

theorem eqKeptS {k : Nat} {l : List GKept} (hw : maxLen + 2 * (nsum nKept l) + 2 < k) (hl : nsum nKept l ≤ Huge) : plaws_eqKeptS k l l = some true := by
  have := nsum_len nKept l
  exact eq2 (f := plaws_eqKept k) (L := plaws_eqKeptS_L1 k l l) (by omega) (fun x hx => by have := nsum_mem (n := nKept) hx; exact eqKept (by omega) (by omega)) (fun m i => rfl) (k := k) (by omega)

theorem markKeptS {k : Nat} {l : List GKept} (hw : maxLen + 2 * (nsum nKept l) + 2 < k) (b : Int) (h1 : 1 ≤ b) (h2 : b + 16 * (nsum nKept l : Int) ≤ Huge) :
    ∃ l' c, plaws_markKeptS k l b = some (l', c) ∧ plaws_heldKeptS k l' b = some c ∧ b ≤ c ∧ c ≤ b + 16 * (nsum nKept l : Int) := by
  have hm : maxLen = 9223372036854775807 := maxLen_eq
  have hH : Huge = 1152921504606846976 := rfl
  have h3 : (if (3 : Int) ≠ 0 then True else False) = True := by decide
  have hlen := nsum_len nKept l
  have key := mark2 (n := nKept) (ok := fun x => maxLen + 2 * (nKept x) + 2 < k)
    (good := fun b x c => ∃ c0 c1 c2 c3 : Int, 1 ≤ b ∧ c ≤ Huge ∧ c = (c3 + 3) ∧ x.gClause.gHead.gKind = b ∧ plaws_markText k (b + 1) = some x.gClause.gHead.gName ∧ x.gClause.gHead.gNum = (b + 2) ∧ plaws_heldTermS k x.gClause.gHead.gKids (b + 3) = some c0 ∧ (b + 3) ≤ c0 ∧ x.gClause.gBody.gKind = c0 ∧ plaws_markText k (c0 + 1) = some x.gClause.gBody.gName ∧ x.gClause.gBody.gNum = (c0 + 2) ∧ plaws_heldTermS k x.gClause.gBody.gKids (c0 + 3) = some c1 ∧ (c0 + 3) ≤ c1 ∧ plaws_markText k c1 = some x.gClause.gFile ∧ plaws_heldInsS k x.gCode.gHead (c1 + 1) = some c2 ∧ (c1 + 1) ≤ c2 ∧ plaws_heldInsS k x.gCode.gBody c2 = some c3 ∧ c2 ≤ c3 ∧ x.gCode.gVars = c3 ∧ x.gBorn = (c3 + 1) ∧ x.gDied = (c3 + 2))
    (L := plaws_markKeptS_L1 k) (H := plaws_heldKeptS_L1 k)
    (fun m b l => by unfold plaws_markKeptS_L1; rw [if_neg (by simp)])
    (fun m b j l x hx hj hat h1 h2 => by
      try unfold nKept at *; try unfold nClause at *; try unfold nCode at *
      have hg0 := nT_kids x.gClause.gHead
      have hg1 := nT_kids x.gClause.gBody
      obtain ⟨s1, t1⟩ := markText (k := k) (by omega) (b + 1) (by omega) (by omega)
      obtain ⟨y0, c0, e0, f0, l0, u0⟩ := markTermS (k := k) (l := x.gClause.gHead.gKids) (by omega) (b + 3) (by omega) (by omega)
      obtain ⟨s2, t2⟩ := markText (k := k) (by omega) (c0 + 1) (by omega) (by omega)
      obtain ⟨y1, c1, e1, f1, l1, u1⟩ := markTermS (k := k) (l := x.gClause.gBody.gKids) (by omega) (c0 + 3) (by omega) (by omega)
      obtain ⟨s3, t3⟩ := markText (k := k) (by omega) c1 (by omega) (by omega)
      obtain ⟨y2, c2, e2, f2, l2, u2⟩ := markInsS (k := k) (l := x.gCode.gHead) (by omega) (c1 + 1) (by omega) (by omega)
      obtain ⟨y3, c3, e3, f3, l3, u3⟩ := markInsS (k := k) (l := x.gCode.gBody) (by omega) c2 (by omega) (by omega)
      refine ⟨(GKept.mk (GClause.mk (GTerm.mk b s1 (b + 2) y0) (GTerm.mk c0 s2 (c0 + 2) y1) s3) (GCode.mk y2 y3 c3) (c3 + 1) (c3 + 2)), (c3 + 3), ⟨c0, c1, c2, c3, h1, (by omega), rfl, rfl, t1, rfl, f0, (by omega), rfl, t2, rfl, f1, (by omega), t3, f2, (by omega), f3, (by omega), rfl, rfl, rfl⟩, (by omega), (by omega), fun hlt => ?_⟩
      have w0 : wr.i64 (b + 1) = b + 1 := by have := wr_i64 (x := b + 1) (by omega) (by omega); omega
      have w1 : wr.i64 (b + 1 + 1) = b + 2 := by have := wr_i64 (x := b + 1 + 1) (by omega) (by omega); omega
      have w2 : wr.i64 (b + 2 + 1) = b + 3 := by have := wr_i64 (x := b + 2 + 1) (by omega) (by omega); omega
      have w3 : wr.i64 (c0 + 1) = c0 + 1 := by have := wr_i64 (x := c0 + 1) (by omega) (by omega); omega
      have w4 : wr.i64 (c0 + 1 + 1) = c0 + 2 := by have := wr_i64 (x := c0 + 1 + 1) (by omega) (by omega); omega
      have w5 : wr.i64 (c0 + 2 + 1) = c0 + 3 := by have := wr_i64 (x := c0 + 2 + 1) (by omega) (by omega); omega
      have w6 : wr.i64 (c1 + 1) = c1 + 1 := by have := wr_i64 (x := c1 + 1) (by omega) (by omega); omega
      have w7 : wr.i64 (c3 + 1) = c3 + 1 := by have := wr_i64 (x := c3 + 1) (by omega) (by omega); omega
      have w8 : wr.i64 (c3 + 1 + 1) = c3 + 2 := by have := wr_i64 (x := c3 + 1 + 1) (by omega) (by omega); omega
      have w9 : wr.i64 (c3 + 2 + 1) = c3 + 3 := by have := wr_i64 (x := c3 + 2 + 1) (by omega) (by omega); omega
      have hat' : (at' l (j : Int)).isSome = true := by rw [hat]; rfl
      rw [plaws_markKeptS_L1, if_pos (by simpa using hlt)]
      simp only [hat, hat', Option.isSome_some, Option.bind_some, w0, w1, w2, w3, w4, w5, w6, w7, w8, w9, t1, e0, t2, e1, t3, e2, e3, at_set, at_set_some, cast_succ hj, List.set_set, Int.toNat_natCast, if3, mk_gKids, mk_gKind, mk_gName, mk_gNum]
)
    (fun l m b => by unfold plaws_heldKeptS_L1; rw [if_neg (by simp)])
    (fun l m b c j x hj hat hg hlt => by
      obtain ⟨c0, c1, c2, c3, g1, g2, g3, k0, k1, k2, k3, m3, k4, k5, k6, k7, m7, k8, k9, m9, k10, m10, k11, k12, k13⟩ := hg
      have w0 : wr.i64 (b + 1) = b + 1 := by have := wr_i64 (x := b + 1) (by omega) (by omega); omega
      have w1 : wr.i64 (b + 1 + 1) = b + 2 := by have := wr_i64 (x := b + 1 + 1) (by omega) (by omega); omega
      have w2 : wr.i64 (b + 2 + 1) = b + 3 := by have := wr_i64 (x := b + 2 + 1) (by omega) (by omega); omega
      have w3 : wr.i64 (c0 + 1) = c0 + 1 := by have := wr_i64 (x := c0 + 1) (by omega) (by omega); omega
      have w4 : wr.i64 (c0 + 1 + 1) = c0 + 2 := by have := wr_i64 (x := c0 + 1 + 1) (by omega) (by omega); omega
      have w5 : wr.i64 (c0 + 2 + 1) = c0 + 3 := by have := wr_i64 (x := c0 + 2 + 1) (by omega) (by omega); omega
      have w6 : wr.i64 (c1 + 1) = c1 + 1 := by have := wr_i64 (x := c1 + 1) (by omega) (by omega); omega
      have w7 : wr.i64 (c3 + 1) = c3 + 1 := by have := wr_i64 (x := c3 + 1) (by omega) (by omega); omega
      have w8 : wr.i64 (c3 + 1 + 1) = c3 + 2 := by have := wr_i64 (x := c3 + 1 + 1) (by omega) (by omega); omega
      have w9 : wr.i64 (c3 + 2 + 1) = c3 + 3 := by have := wr_i64 (x := c3 + 2 + 1) (by omega) (by omega); omega
      have hc : ∀ c : Int, 1 ≤ c → (decide (c < 0)) = false := fun c h => by simpa using (by omega : 0 ≤ c)
      rw [plaws_heldKeptS_L1, if_pos (by simpa using hlt)]
      simp only [hat, Option.bind_some, w0, w1, w2, w3, w4, w5, w6, w7, w8, w9, k0, k1, k2, k3, k4, k5, k6, k7, k8, k9, k10, k11, k12, k13, bne_self_eq_false, beq_self_eq_true, sEq_refl, Bool.not_true, Bool.false_eq_true, if_false, cast_succ hj, if3, g3, hc c0 (by omega), hc c1 (by omega), hc c2 (by omega), hc c3 (by omega)])
    (k := k) (by omega) l (fun x hx => by have := nsum_mem (n := nKept) hx; omega) b h1 h2
  obtain ⟨l', c, e1, e2, e3, e4⟩ := key
  refine ⟨l', c, ?_, ?_, e3, e4⟩
  · unfold plaws_markKeptS; rw [e1]; rfl
  · unfold plaws_heldKeptS; rw [e2]; rfl

def nStore (x : GStore) : Nat := nsum nKept x.gList + nsum (fun _ => 0) x.gOpen

theorem eqStore {k : Nat} {x : GStore} (hw : maxLen + 2 * (nStore x) + 2 < k) (hx : nStore x ≤ Huge) : plaws_eqStore k x x = some true := by
  unfold nStore at *
  unfold plaws_eqStore
  rw [eqKeptS (k := k) (l := x.gList) (by omega) (by omega)]
  rw [eqStringS (k := k) (l := x.gOpen) (by omega) (by omega)]
  simp [sEq_refl]

theorem markStore {k : Nat} {x : GStore} (hw : maxLen + 2 * (nStore x) + 2 < k) (b : Int) (h1 : 1 ≤ b) (h2 : b + 16 * (nStore x : Int) ≤ Huge) :
    ∃ y c, plaws_markStore k x b = some (y, c) ∧ plaws_heldStore k (GStore.mk y.gList y.gOpen x.gNow) b = some c ∧ plaws_heldStore k y b = some c ∧ b ≤ c ∧ c ≤ b + 16 * (nStore x : Int) := by
  unfold nStore at *
  obtain ⟨y0, c0, e0, f0, l0, u0⟩ := markKeptS (k := k) (l := x.gList) (by omega) b (by omega) (by omega)
  obtain ⟨y1, c1, e1, f1, l1, u1⟩ := markStringS (k := k) (l := x.gOpen) (by omega) c0 (by omega) (by omega)
  have hc : ∀ c : Int, 1 ≤ c → (decide (c < 0)) = false := fun c h => by simpa using (by omega : 0 ≤ c)
  refine ⟨GStore.mk y0 y1 x.gNow, c1, ?_, ?_, ?_, (by omega), (by omega)⟩
  · unfold plaws_markStore; simp only [e0, e1, Option.bind_some, mk_gKids]
  · unfold plaws_heldStore; simp only [f0, f1, Option.bind_some, hc c0 (by omega), hc c1 (by omega), Bool.false_eq_true, if_false, mk_gKids]
  · unfold plaws_heldStore; simp only [f0, f1, Option.bind_some, hc c0 (by omega), hc c1 (by omega), Bool.false_eq_true, if_false, mk_gKids]
/-- Is it within these bounds? -/
def inR (x a b : Int) : Bool := decide (a ≤ x ∧ x ≤ b)
theorem inR_t {x a b : Int} (h : a ≤ x ∧ x ≤ b) : inR x a b = true := decide_eq_true h
theorem inR_f {x a b : Int} (h : ¬ (a ≤ x ∧ x ≤ b)) : inR x a b = false := decide_eq_false h

theorem l01In (k : Nat) (x a b : Int) : pspec_l01In k x a b = some (inR x a b) := by
  unfold pspec_l01In inR
  by_cases h : a ≤ x
  · rw [if_pos (by simpa using h)]; simp [h]
  · rw [if_neg (by simpa using h)]; simp [h]

theorem within (k : Nat) (x a b : Int) : pimpl_within k x a b = some (inR x a b) := by
  unfold pimpl_within inR
  by_cases h : a ≤ x
  · rw [if_pos (by simpa using h)]; simp [h]
  · rw [if_neg (by simpa using h)]; simp [h]
theorem bt_le (s : ByteArray) (i : Int) : 0 ≤ bt s i ∧ bt s i ≤ 255 := by
  unfold bt
  have : ((s[i.toNat]?).getD 0).toNat < 256 := ((s[i.toNat]?).getD 0).toNat_lt
  omega
/-- A byte that a name may have. -/
def gb (s : ByteArray) (i : Nat) : Prop := 33 ≤ bt s (i : Int) ∧ bt s (i : Int) ≤ 126 ∧ bt s (i : Int) ≠ 39 ∧ bt s (i : Int) ≠ 34
instance (s : ByteArray) (i : Nat) : Decidable (gb s i) := by unfold gb; infer_instance
/-- A name. -/
def nmOk (s : ByteArray) : Prop := (∀ i, i < s.size → gb s i) ∧ 1 ≤ s.size ∧ s.size ≤ 20
instance (s : ByteArray) : Decidable (nmOk s) := by unfold nmOk; infer_instance

theorem l03Name_L1 (k : Nat) (s : ByteArray) (hs : s.size ≤ maxLen) : ∀ (m n : Nat), n ≤ s.size → s.size - n < m →
    ∃ o, pspec_l03Name_L1 k s m (n : Int) = some o ∧ (match o with | .ret r => r = false ∧ ∃ i, i < s.size ∧ ¬ gb s i | .done _ => ∀ i, n ≤ i → i < s.size → gb s i)
  | 0, n, h1, h2 => by omega
  | m + 1, n, h1, h2 => by
    unfold pspec_l03Name_L1
    by_cases hlt : n < s.size
    · have hg : 0 ≤ (n : Int) ∧ (n : Int).toNat < s.size := ⟨by omega, by simpa using hlt⟩
      have bad : ∀ b : Prop, (gb s n → ¬ b) → b → ∃ o, (some (Out.ret false) : Option (Out Bool Unit)) = some o ∧ (match o with | .ret r => r = false ∧ ∃ i, i < s.size ∧ ¬ gb s i | .done _ => ∀ i, n ≤ i → i < s.size → gb s i) :=
        fun b h hb => ⟨_, rfl, rfl, n, hlt, fun h' => h h' hb⟩
      rw [if_pos (by simpa using hlt), if_pos hg]
      by_cases c1 : bt s (n : Int) < 33
      · rw [if_pos (by simpa using c1)]; exact bad _ (fun h => by have := h.1; omega) c1
      rw [if_neg (by simpa using c1), if_pos hg]
      by_cases c2 : bt s (n : Int) > 126
      · rw [if_pos (by simpa using c2)]; exact bad _ (fun h => by have := h.2.1; omega) c2
      rw [if_neg (by simpa using c2), if_pos hg]
      by_cases c3 : bt s (n : Int) = 39
      · rw [if_pos (by simpa using c3)]; exact bad _ (fun h => h.2.2.1) c3
      rw [if_neg (by simpa using c3), if_pos hg]
      by_cases c4 : bt s (n : Int) = 34
      · rw [if_pos (by simpa using c4)]; exact bad _ (fun h => h.2.2.2) c4
      rw [if_neg (by simpa using c4), wr_succ hlt hs]
      obtain ⟨o, h3, h4⟩ := l03Name_L1 k s hs m (n + 1) (by omega) (by omega)
      refine ⟨o, h3, ?_⟩
      cases o with
      | ret r => exact h4
      | done u =>
        intro i hi1 hi2
        by_cases e : i = n
        · subst e; exact ⟨by omega, by omega, c3, c4⟩
        · exact h4 i (by omega) hi2
    · rw [if_neg (by simpa using hlt)]
      exact ⟨_, rfl, fun i h3 h4 => by omega⟩

theorem nameOk_L1 (k : Nat) (s : ByteArray) (hs : s.size ≤ maxLen) : ∀ (m n : Nat), n ≤ s.size → s.size - n < m →
    ∃ o, pimpl_nameOk_L1 k s m (n : Int) = some o ∧ (match o with | .ret r => r = false ∧ ∃ i, i < s.size ∧ ¬ gb s i | .done _ => ∀ i, n ≤ i → i < s.size → gb s i)
  | 0, n, h1, h2 => by omega
  | m + 1, n, h1, h2 => by
    unfold pimpl_nameOk_L1
    by_cases hlt : n < s.size
    · have hg : 0 ≤ (n : Int) ∧ (n : Int).toNat < s.size := ⟨by omega, by simpa using hlt⟩
      have hb := bt_le s (n : Int)
      have bad : ∀ b : Prop, (gb s n → ¬ b) → b → ∃ o, (some (Out.ret false) : Option (Out Bool Unit)) = some o ∧ (match o with | .ret r => r = false ∧ ∃ i, i < s.size ∧ ¬ gb s i | .done _ => ∀ i, n ≤ i → i < s.size → gb s i) :=
        fun b h hb => ⟨_, rfl, rfl, n, hlt, fun h' => h h' hb⟩
      rw [if_pos (by simpa using hlt), if_pos hg, within, wr_i64 (by omega) (by omega)]
      simp only [Option.bind_some]
      by_cases c1 : 33 ≤ bt s (n : Int) ∧ bt s (n : Int) ≤ 126
      · rw [inR_t c1, if_neg (by simp), if_pos hg]
        by_cases c3 : bt s (n : Int) = 39
        · rw [if_pos (by simpa using c3)]; exact bad _ (fun h => h.2.2.1) c3
        rw [if_neg (by simpa using c3), if_pos hg]
        by_cases c4 : bt s (n : Int) = 34
        · rw [if_pos (by simpa using c4)]; exact bad _ (fun h => h.2.2.2) c4
        rw [if_neg (by simpa using c4), wr_succ hlt hs]
        obtain ⟨o, h3, h4⟩ := nameOk_L1 k s hs m (n + 1) (by omega) (by omega)
        refine ⟨o, h3, ?_⟩
        cases o with
        | ret r => exact h4
        | done u =>
          intro i hi1 hi2
          by_cases e : i = n
          · subst e; exact ⟨by omega, by omega, c3, c4⟩
          · exact h4 i (by omega) hi2
      · rw [inR_f c1, if_pos (by simp)]
        exact bad _ (fun h => by have := h.1; have := h.2.1; omega) c1
    · rw [if_neg (by simpa using hlt)]
      exact ⟨_, rfl, fun i h3 h4 => by omega⟩

theorem nm_of {s : ByteArray} (h : ∀ i, 0 ≤ i → i < s.size → gb s i) : inR (s.size : Int) 1 20 = decide (nmOk s) := by
  unfold inR
  rw [decide_eq_decide]
  unfold nmOk
  constructor
  · intro h1; exact ⟨fun i hi => h i (by omega) hi, by omega, by omega⟩
  · intro h1; obtain ⟨_, h5, h6⟩ := h1; omega

theorem l03Name {k : Nat} {s : ByteArray} (hs : s.size ≤ maxLen) (hk : maxLen < k) : pspec_l03Name k s = some (decide (nmOk s)) := by
  unfold pspec_l03Name
  obtain ⟨o, h1, h2⟩ := l03Name_L1 k s hs k 0 (by omega) (by omega)
  rw [show ((0 : Nat) : Int) = 0 from rfl] at h1
  rw [h1]
  cases o with
  | ret r =>
    obtain ⟨rfl, i, h3, h4⟩ := h2
    have : ¬ nmOk s := fun h => h4 (h.1 i h3)
    simp [this]
  | done u =>
    simp only [Option.bind_some]
    rw [l01In]
    simp only [Option.bind_some]
    rw [nm_of h2]

theorem nameOk {k : Nat} {s : ByteArray} (hs : s.size ≤ maxLen) (hk : maxLen < k) : pimpl_nameOk k s = some (decide (nmOk s)) := by
  unfold pimpl_nameOk
  obtain ⟨o, h1, h2⟩ := nameOk_L1 k s hs k 0 (by omega) (by omega)
  rw [show ((0 : Nat) : Int) = 0 from rfl] at h1
  rw [h1]
  cases o with
  | ret r =>
    obtain ⟨rfl, i, h3, h4⟩ := h2
    have : ¬ nmOk s := fun h => h4 (h.1 i h3)
    simp [this]
  | done u =>
    simp only [Option.bind_some]
    rw [within]
    simp only [Option.bind_some]
    rw [nm_of h2]

/-- The head of a term is as it should be. -/
def one (x : GTerm) : Bool :=
  if x.gKind = 1 then inR x.gNum 0 99999 && (sEq x.gName (bs []) && ((x.gKids.length : Int) == 0))
  else if x.gKind = 2 then decide (nmOk x.gName) && ((x.gNum == 0) && ((x.gKids.length : Int) == 0))
  else if x.gKind = 3 then inR x.gNum (-999999999) 999999999 && (sEq x.gName (bs []) && ((x.gKids.length : Int) == 0))
  else if x.gKind = 4 then decide (nmOk x.gName) && ((x.gNum == 0) && inR (x.gKids.length : Int) 1 5)
  else false
mutual
/-- A term, at a depth, is as it should be. -/
def gT : Int → GTerm → Bool
  | d, .mk a b c l => decide (d ≤ 40) && (one (.mk a b c l) && gTs (d + 1) l)
def gTs : Int → List GTerm → Bool
  | _, [] => true
  | d, x :: l => gT d x && gTs d l
end
theorem gT_eq (d : Int) (x : GTerm) : gT d x = (decide (d ≤ 40) && (one x && gTs (d + 1) x.gKids)) := by
  cases x with
  | mk a b c l => rw [gT]; rfl
theorem gTs_drop {d : Int} {l : List GTerm} {j : Nat} (h : j < l.length) : gTs d (l.drop j) = (gT d l[j] && gTs d (l.drop (j + 1))) := by
  rw [List.drop_eq_getElem_cons h, gTs]
theorem ns_drop {l : List GTerm} {j : Nat} (h : j < l.length) : nsum nT (l.drop j) = 1 + nT l[j] + nsum nT (l.drop (j + 1)) := by
  rw [List.drop_eq_getElem_cons h, nsum]

theorem l03One {k : Nat} {x : GTerm} (hx : x.ok) (hk : maxLen < k) : pspec_l03One k x = some (one x) := by
  have hn := l03Name (k := k) (s := x.gName) (ok_name hx) hk
  unfold pspec_l03One one
  simp only [hn, l01In, Option.bind_some]
  by_cases c1 : x.gKind = 1
  · rw [if_pos (by simpa using c1), if_pos c1]
    cases inR x.gNum 0 99999 <;> cases sEq x.gName (bs []) <;> simp
  rw [if_neg (by simpa using c1), if_neg c1]
  by_cases c2 : x.gKind = 2
  · rw [if_pos (by simpa using c2), if_pos c2]
    cases decide (nmOk x.gName) <;> by_cases h : x.gNum = 0 <;> simp [h]
  rw [if_neg (by simpa using c2), if_neg c2]
  by_cases c3 : x.gKind = 3
  · rw [if_pos (by simpa using c3), if_pos c3]
    cases inR x.gNum (-999999999) 999999999 <;> cases sEq x.gName (bs []) <;> simp
  rw [if_neg (by simpa using c3), if_neg c3]
  by_cases c4 : x.gKind = 4
  · rw [if_pos (by simpa using c4), if_pos c4]
    cases decide (nmOk x.gName) <;> by_cases h : x.gNum = 0 <;> simp [h]
  · rw [if_neg (by simpa using c4), if_neg c4]

/-- What is left of so many terms. -/
def leftOf (v left : Int) (n : Nat) : Prop := -1 ≤ v ∧ (0 ≤ v ↔ (n : Int) ≤ left) ∧ (0 ≤ v → v = left - (n : Int))
theorem l03Count_L1 {k : Nat} {x : GTerm} {f : GTerm → Int → Option Int} (hx : x.gKids.length ≤ maxLen) (hf : ∀ y ∈ x.gKids, ∀ b, 0 ≤ b → b ≤ 400 → ∃ v, f y b = some v ∧ leftOf v b (1 + nT y)) :
    ∀ (m j : Nat) (b : Int), j ≤ x.gKids.length → x.gKids.length - j < m → -1 ≤ b → b ≤ 400 →
      ∃ v, pspec_l03Count_L1 k f x m b (j : Int) = some (.done v) ∧ ((b = -1 ∧ v = -1) ∨ (0 ≤ b ∧ leftOf v b (nsum nT (x.gKids.drop j))))
  | 0, j, b, h1, h2, h3, h4 => by omega
  | m + 1, j, b, h1, h2, h3, h4 => by
    unfold pspec_l03Count_L1
    by_cases hlt : j < x.gKids.length
    · rw [if_pos (by simpa using hlt)]
      by_cases hb : 0 ≤ b
      · rw [if_pos (by simpa using hb), at_lt hlt]
        simp only [Option.bind_some]
        obtain ⟨v, e, g1, g2, g3⟩ := hf _ (List.getElem_mem hlt) b hb h4
        rw [e]
        simp only [Option.bind_some]
        rw [wr_succ hlt hx]
        obtain ⟨u, e2, h5⟩ := l03Count_L1 (k := k) hx hf m (j + 1) v (by omega) (by omega) g1 (by by_cases h : 0 ≤ v <;> omega)
        refine ⟨u, e2, .inr ⟨hb, ?_⟩⟩
        rw [ns_drop hlt]
        rcases h5 with ⟨rfl, rfl⟩ | ⟨h6, h7, h8, h9⟩
        · refine ⟨by omega, ⟨fun h => by omega, fun h => by have := g2.2 (by omega); omega⟩, fun h => by omega⟩
        · have := g3 h6
          have := g2.1 h6
          refine ⟨h7, ⟨fun h => by have := h8.1 h; omega, fun h => h8.2 (by omega)⟩, fun h => by have := h9 h; omega⟩
      · rw [if_neg (by simpa using hb)]
        exact ⟨b, rfl, .inl ⟨by omega, by omega⟩⟩
    · rw [if_neg (by simpa using hlt)]
      rw [List.drop_of_length_le (by omega)]
      by_cases hb : 0 ≤ b
      · exact ⟨b, rfl, .inr ⟨hb, h3, by simp only [nsum]; omega, fun _ => by simp only [nsum]; omega⟩⟩
      · exact ⟨b, rfl, .inl ⟨by omega, by omega⟩⟩

theorem l03Count : ∀ (k : Nat) (x : GTerm), maxLen + 2 * nT x + 2 < k → x.ok → ∀ b : Int, 0 ≤ b → b ≤ 400 → ∃ v, pspec_l03Count k x b = some v ∧ leftOf v b (1 + nT x)
  | 0, x, h => by omega
  | k + 1, x, hw => by
    intro hx b h0 h1
    have hn := nT_kids x
    unfold pspec_l03Count
    rw [wr_i64 (by omega) (by omega)]
    obtain ⟨v, e, h⟩ := l03Count_L1 (k := k) (x := x) (ok_kids hx).1 (fun y hy b h0 h1 => by have := nsum_mem (n := nT) hy; exact l03Count k y (by omega) ((ok_kids hx).2 y hy) b h0 h1) k 0 (b - 1) (by omega) (by have := (ok_kids hx).1; omega) (by omega) (by omega)
    rw [show ((0 : Nat) : Int) = 0 from rfl] at e
    rw [e]
    refine ⟨v, rfl, ?_⟩
    rw [List.drop_zero, ← hn] at h
    rcases h with ⟨h2, rfl⟩ | ⟨h2, h3, h4, h5⟩
    · exact ⟨by omega, ⟨fun h => by omega, fun h => by omega⟩, fun h => by omega⟩
    · exact ⟨h3, ⟨fun h => by have := h4.1 h; omega, fun h => h4.2 (by omega)⟩, fun h => by have := h5 h; omega⟩

theorem l03Right_L1 {k : Nat} {x : GTerm} {d : Int} {f : GTerm → Int → Option Bool} (hx : x.gKids.length ≤ maxLen) (hd : wr.i64 (d + 1) = d + 1) (hf : ∀ y ∈ x.gKids, f y (d + 1) = some (gT (d + 1) y)) :
    ∀ (m j : Nat), j ≤ x.gKids.length → x.gKids.length - j < m → pspec_l03Right_L1 k f x d m (j : Int) = some (if gTs (d + 1) (x.gKids.drop j) then .done () else .ret false)
  | 0, j, h1, h2 => by omega
  | m + 1, j, h1, h2 => by
    unfold pspec_l03Right_L1
    by_cases hlt : j < x.gKids.length
    · rw [if_pos (by simpa using hlt), at_lt hlt, hd]
      simp only [Option.bind_some, hf _ (List.getElem_mem hlt)]
      rw [gTs_drop hlt]
      cases hg : gT (d + 1) x.gKids[j] with
      | false => simp
      | true =>
        rw [if_neg (by simp), wr_succ hlt hx, l03Right_L1 hx hd hf m (j + 1) (by omega) (by omega)]
        simp
    · rw [if_neg (by simpa using hlt), List.drop_of_length_le (by omega), gTs]; rfl

theorem l03Right : ∀ (k : Nat) (x : GTerm), maxLen + 2 * nT x + 2 < k → x.ok → ∀ d : Int, 0 ≤ d → d ≤ 41 → pspec_l03Right k x d = some (gT d x)
  | 0, x, h => by omega
  | k + 1, x, hw => by
    intro hx d h0 h1
    have hn := nT_kids x
    unfold pspec_l03Right
    rw [gT_eq]
    by_cases hd : d > 40
    · rw [if_pos (by simpa using hd)]; simp; omega
    · rw [if_neg (by simpa using hd), l03One hx (by omega)]
      simp only [Option.bind_some]
      cases h1 : one x with
      | false => simp
      | true =>
        rw [if_neg (by simp)]
        have e := l03Right_L1 (k := k) (x := x) (d := d) (ok_kids hx).1 (wr_i64 (by omega) (by omega)) (fun y hy => by have := nsum_mem (n := nT) hy; exact l03Right k y (by omega) ((ok_kids hx).2 y hy) (d + 1) (by omega) (by omega)) k 0 (by omega) (by have := (ok_kids hx).1; omega)
        rw [show ((0 : Nat) : Int) = 0 from rfl, List.drop_zero] at e
        rw [e]
        cases gTs (d + 1) x.gKids <;> simp <;> omega

/-- A term is right. -/
def tOk (x : GTerm) : Bool := decide (1 + nT x ≤ 400) && gT 1 x
theorem spec_TermOk {k : Nat} {x : GTerm} (hw : maxLen + 2 * nT x + 2 < k) (hx : x.ok) : pspec_TermOk k x = some (tOk x) := by
  unfold pspec_TermOk tOk
  obtain ⟨v, e, h1, h2, h3⟩ := l03Count k x hw hx 400 (by omega) (by omega)
  rw [e]
  simp only [Option.bind_some]
  by_cases hv : 0 ≤ v
  · rw [if_pos (by simpa using hv), l03Right k x hw hx 1 (by omega) (by omega)]
    have := h2.1 hv
    simp; omega
  · rw [if_neg (by simpa using hv)]
    have : ¬ (1 + nT x ≤ 400) := fun h => hv (h2.2 (by omega))
    simp [this]

/-- What the program counts. -/
def cnt (d : Int) (x : GTerm) : Int := if gT d x && decide (1 + nT x ≤ 400) then ((1 + nT x : Nat) : Int) else 401
theorem sized_L2 {k : Nat} {x : GTerm} {d : Int} {f : GTerm → Int → Option Int} (hx : x.gKids.length ≤ maxLen) (hd : wr.i64 (d + 1) = d + 1) (hf : ∀ y ∈ x.gKids, f y (d + 1) = some (cnt (d + 1) y)) :
    ∀ (m j : Nat) (b : Int), j ≤ x.gKids.length → x.gKids.length - j < m → 1 ≤ b → b ≤ 400 →
      pimpl_sized_L2 k f x d m b (j : Int) = some (if gTs (d + 1) (x.gKids.drop j) && decide (b + (nsum nT (x.gKids.drop j) : Int) ≤ 400) then .done (b + (nsum nT (x.gKids.drop j) : Int)) else .ret 401)
  | 0, j, b, h1, h2, h3, h4 => by omega
  | m + 1, j, b, h1, h2, h3, h4 => by
    unfold pimpl_sized_L2
    by_cases hlt : j < x.gKids.length
    · rw [if_pos (by simpa using hlt), at_lt hlt, hd]
      simp only [Option.bind_some, hf _ (List.getElem_mem hlt)]
      rw [gTs_drop hlt, ns_drop hlt, wr_succ hlt hx]
      by_cases hg : gT (d + 1) x.gKids[j] = true ∧ 1 + nT x.gKids[j] ≤ 400
      · have hc : cnt (d + 1) x.gKids[j] = ((1 + nT x.gKids[j] : Nat) : Int) := by unfold cnt; rw [if_pos (by simpa using hg)]
        rw [hc, wr_i64 (by omega) (by omega)]
        by_cases hs : b + ((1 + nT x.gKids[j] : Nat) : Int) > 400
        · rw [if_pos (by simpa using hs), if_neg]
          simp only [Bool.and_eq_true, decide_eq_true_eq, not_and]
          intro _; omega
        · rw [if_neg (by simpa using hs), sized_L2 hx hd hf m (j + 1) _ (by omega) (by omega) (by omega) (by omega), hg.1, Bool.true_and]
          have e1 : b + ((1 + nT x.gKids[j] : Nat) : Int) + (nsum nT (x.gKids.drop (j + 1)) : Int) = b + ((1 + nT x.gKids[j] + nsum nT (x.gKids.drop (j + 1)) : Nat) : Int) := by omega
          rw [e1]
      · have hc : cnt (d + 1) x.gKids[j] = 401 := by unfold cnt; rw [if_neg (by simpa using hg)]
        rw [hc, wr_i64 (by omega) (by omega), if_pos (by simp; omega), if_neg]
        simp only [Bool.and_eq_true, decide_eq_true_eq, not_and]
        intro h5
        have h6 : ¬ (1 + nT x.gKids[j] ≤ 400) := fun h => hg ⟨h5.1, h⟩
        omega
    · rw [if_neg (by simpa using hlt), List.drop_of_length_le (by omega), gTs, if_pos (by simp only [nsum]; simp; omega)]
      simp [nsum]

theorem sized : ∀ (k : Nat) (x : GTerm), maxLen + 2 * nT x + 2 < k → x.ok → ∀ d : Int, 0 ≤ d → d ≤ 41 → pimpl_sized k x d = some (cnt d x)
  | 0, x, h => by omega
  | k + 1, x, hw => by
    intro hx d h0 h1
    have hn := nT_kids x
    have hnm := nameOk (k := k) (s := x.gName) (ok_name hx) (by omega)
    have hJ : d ≤ 40 → one x = true → pimpl_sized_J1 k (pimpl_sized k) x d = some (cnt d x) := by
      intro hd h1
      unfold pimpl_sized_J1 cnt
      have e := sized_L2 (k := k) (x := x) (d := d) (ok_kids hx).1 (wr_i64 (by omega) (by omega)) (fun y hy => by have := nsum_mem (n := nT) hy; exact sized k y (by omega) ((ok_kids hx).2 y hy) (d + 1) (by omega) (by omega)) k 0 1 (by omega) (by have := (ok_kids hx).1; omega) (by omega) (by omega)
      rw [show ((0 : Nat) : Int) = 0 from rfl, List.drop_zero, ← hn] at e
      rw [e, gT_eq, h1, Bool.true_and, decide_eq_true hd, Bool.true_and]
      have e2 : decide (1 + (nT x : Int) ≤ 400) = decide (1 + nT x ≤ 400) := by rw [decide_eq_decide]; omega
      rw [e2]
      split
      · simp
      · simp
    have hbad : one x = false → (401 : Int) = cnt d x := by
      intro h1; unfold cnt; rw [gT_eq, h1]; simp
    unfold pimpl_sized
    by_cases hd : d > 40
    · rw [if_pos (by simpa using hd)]
      unfold cnt; rw [gT_eq, decide_eq_false (show ¬ d ≤ 40 by omega)]; simp
    have hJ' := hJ (by omega)
    rw [if_neg (by simpa using hd)]
    simp only [hnm, within, Option.bind_some]
    generalize pimpl_sized_J1 k (pimpl_sized k) x d = J at hJ' ⊢
    generalize cnt d x = C at hJ' hbad ⊢
    have hlen : ((x.gKids.length : Int) > 0) ↔ ¬ ((x.gKids.length : Int) = 0) := by omega
    unfold one at hJ' hbad
    by_cases c1 : x.gKind = 1
    · rw [if_pos (by simpa using c1)]
      rw [if_pos c1] at hJ' hbad
      cases h2 : inR x.gNum 0 99999 <;> cases h3 : sEq x.gName (bs []) <;> by_cases h4 : (x.gKids.length : Int) = 0 <;> simp_all
    rw [if_neg (by simpa using c1)]
    rw [if_neg c1] at hJ' hbad
    by_cases c2 : x.gKind = 2
    · rw [if_pos (by simpa using c2)]
      rw [if_pos c2] at hJ' hbad
      cases h2 : decide (nmOk x.gName) <;> by_cases h3 : x.gNum = 0 <;> by_cases h4 : (x.gKids.length : Int) = 0 <;> simp_all
    rw [if_neg (by simpa using c2)]
    rw [if_neg c2] at hJ' hbad
    by_cases c3 : x.gKind = 3
    · rw [if_pos (by simpa using c3)]
      rw [if_pos c3] at hJ' hbad
      cases h2 : inR x.gNum (-999999999) 999999999 <;> cases h3 : sEq x.gName (bs []) <;> by_cases h4 : (x.gKids.length : Int) = 0 <;> simp_all
    rw [if_neg (by simpa using c3)]
    rw [if_neg c3] at hJ' hbad
    by_cases c4 : x.gKind = 4
    · rw [if_pos (by simpa using c4)]
      rw [if_pos c4] at hJ' hbad
      cases h2 : decide (nmOk x.gName) <;> by_cases h3 : x.gNum = 0 <;> cases h4 : inR (x.gKids.length : Int) 1 5 <;> simp_all
    · rw [if_neg (by simpa using c4)]
      rw [if_neg c4] at hbad
      rw [hbad rfl]

theorem impl_TermOk {k : Nat} {x : GTerm} (hw : maxLen + 2 * nT x + 2 < k) (hx : x.ok) : pimpl_TermOk k x = some (tOk x) := by
  unfold pimpl_TermOk tOk
  rw [sized k x hw hx 1 (by omega) (by omega)]
  simp only [Option.bind_some]
  unfold cnt
  cases gT 1 x <;> by_cases h : 1 + nT x ≤ 400 <;> simp [h] <;> omega
theorem l03Has_L1 (k : Nat) {l : List Int} (x : Int) (hl : l.length ≤ maxLen) : ∀ (m j : Nat), j ≤ l.length → l.length - j < m → pspec_l03Has_L1 k l x m (j : Int) = some (if x ∈ l.drop j then .ret true else .done ())
  | 0, j, h1, h2 => by omega
  | m + 1, j, h1, h2 => by
    unfold pspec_l03Has_L1
    by_cases hlt : j < l.length
    · rw [if_pos (by simpa using hlt), at_lt hlt, List.drop_eq_getElem_cons hlt]
      simp only [Option.bind_some]
      by_cases e : l[j] = x
      · rw [if_pos (by simpa using e), if_pos (by simp [e])]
      · rw [if_neg (by simpa using e), wr_succ hlt hl, l03Has_L1 k x hl m (j + 1) (by omega) (by omega)]
        have : (x ∈ l[j] :: l.drop (j + 1)) ↔ x ∈ l.drop (j + 1) := by
          rw [List.mem_cons]; exact ⟨fun h => h.resolve_left (fun h => e h.symm), .inr⟩
        simp only [this]
    · rw [if_neg (by simpa using hlt), List.drop_of_length_le (by omega)]; simp
theorem l03Has {k : Nat} {l : List Int} (x : Int) (hl : l.length ≤ maxLen) (hk : maxLen < k) : pspec_l03Has k l x = some (decide (x ∈ l)) := by
  unfold pspec_l03Has
  have e := l03Has_L1 k x hl k 0 (by omega) (by omega)
  rw [show ((0 : Nat) : Int) = 0 from rfl, List.drop_zero] at e
  rw [e]
  by_cases h : x ∈ l <;> simp [h]
theorem index_L1 (k : Nat) {l : List Int} (x : Int) (hl : l.length ≤ maxLen) : ∀ (m j : Nat), j ≤ l.length → l.length - j < m →
    ∃ o, pslices_Index___int_int__L1 k l x m (j : Int) = some o ∧ (match o with | .ret i => 0 ≤ i ∧ x ∈ l.drop j | .done _ => ¬ x ∈ l.drop j)
  | 0, j, h1, h2 => by omega
  | m + 1, j, h1, h2 => by
    unfold pslices_Index___int_int__L1
    by_cases hlt : j < l.length
    · rw [if_pos (by simpa using hlt), at_lt hlt, List.drop_eq_getElem_cons hlt]
      simp only [Option.bind_some]
      by_cases e : x = l[j]
      · rw [if_pos (by simpa using e)]
        exact ⟨_, rfl, by omega, by rw [List.mem_cons]; exact .inl e⟩
      · rw [if_neg (by simpa using e), wr_succ hlt hl]
        obtain ⟨o, h3, h4⟩ := index_L1 k x hl m (j + 1) (by omega) (by omega)
        refine ⟨o, h3, ?_⟩
        cases o with
        | ret i => exact ⟨h4.1, List.mem_cons_of_mem _ h4.2⟩
        | done u =>
          intro hm
          rcases List.mem_cons.1 hm with hm | hm
          · exact e hm
          · exact h4 hm
    · rw [if_neg (by simpa using hlt), List.drop_of_length_le (by omega)]
      exact ⟨_, rfl, by simp⟩
theorem contains {k : Nat} {l : List Int} (x : Int) (hl : l.length ≤ maxLen) (hk : maxLen < k) : pslices_Contains___int_int_ k l x = some (decide (x ∈ l)) := by
  unfold pslices_Contains___int_int_ pslices_Index___int_int_
  obtain ⟨o, h1, h2⟩ := index_L1 k x hl k 0 (by omega) (by omega)
  rw [show ((0 : Nat) : Int) = 0 from rfl] at h1
  rw [h1]
  rw [List.drop_zero] at h2
  cases o with
  | ret i => simp [h2.1, h2.2]
  | done u =>
    simp only [Option.bind_some]
    have : ¬ x ∈ l := h2
    simp [this]

mutual
/-- The words of a term, and the variables seen by then. -/
def W : GTerm → List Int → List GIns × List Int
  | .mk a b c l, s =>
    if a = 2 then ([GIns.mk 1 b 0 0], s)
    else if a = 3 then ([GIns.mk 2 (bs []) c 0], s)
    else if a = 1 then (if c ∈ s then ([GIns.mk 4 (bs []) c 0], s) else ([GIns.mk 3 (bs []) c 0], s ++ [c]))
    else (GIns.mk 5 b 0 (l.length : Int) :: (Ws l s).1, (Ws l s).2)
def Ws : List GTerm → List Int → List GIns × List Int
  | [], s => ([], s)
  | x :: l, s => ((W x s).1 ++ (Ws l (W x s).2).1, (Ws l (W x s).2).2)
end
theorem W_eq (x : GTerm) (s : List Int) : W x s = if x.gKind = 2 then ([GIns.mk 1 x.gName 0 0], s)
    else if x.gKind = 3 then ([GIns.mk 2 (bs []) x.gNum 0], s)
    else if x.gKind = 1 then (if x.gNum ∈ s then ([GIns.mk 4 (bs []) x.gNum 0], s) else ([GIns.mk 3 (bs []) x.gNum 0], s ++ [x.gNum]))
    else (GIns.mk 5 x.gName 0 (x.gKids.length : Int) :: (Ws x.gKids s).1, (Ws x.gKids s).2) := by
  cases x with
  | mk a b c l => rw [W]; rfl
mutual
theorem W_len : ∀ (x : GTerm) (s : List Int), (W x s).1.length ≤ 1 + nT x ∧ (W x s).2.length ≤ s.length + 1 + nT x
  | .mk a b c l, s => by
    have h := Ws_len l s
    rw [W, nT]
    split
    · simp; omega
    · split
      · simp; omega
      · split
        · split <;> simp <;> omega
        · simp only [List.length_cons]; omega
theorem Ws_len : ∀ (l : List GTerm) (s : List Int), (Ws l s).1.length ≤ nTs l ∧ (Ws l s).2.length ≤ s.length + nTs l
  | [], s => by simp [Ws, nTs]
  | x :: l, s => by
    have h1 := W_len x s
    have h2 := Ws_len l (W x s).2
    rw [Ws, nTs]
    simp only [List.length_append]
    omega
end
theorem Ws_drop {l : List GTerm} {j : Nat} (h : j < l.length) (s : List Int) : Ws (l.drop j) s = ((W l[j] s).1 ++ (Ws (l.drop (j + 1)) (W l[j] s).2).1, (Ws (l.drop (j + 1)) (W l[j] s).2).2) := by
  rw [List.drop_eq_getElem_cons h, Ws]

theorem l12Words_L1 {k : Nat} {x : GTerm} {f : GTerm → List GIns → List Int → Option (List GIns × List Int)} (hx : x.gKids.length ≤ 1048576)
    (hf : ∀ y ∈ x.gKids, ∀ o s, o.length + 1 + nT y ≤ 8388608 → s.length + 1 + nT y ≤ 8388608 → f y o s = some (o ++ (W y s).1, (W y s).2)) :
    ∀ (m j : Nat) (o : List GIns) (s : List Int), j ≤ x.gKids.length → x.gKids.length - j < m → o.length + nsum nT (x.gKids.drop j) ≤ 8388608 → s.length + nsum nT (x.gKids.drop j) ≤ 8388608 →
      pspec_l12Words_L1 k f x m o s (j : Int) = some (.done (o ++ (Ws (x.gKids.drop j) s).1, (Ws (x.gKids.drop j) s).2))
  | 0, j, o, s, h1, h2, h3, h4 => by omega
  | m + 1, j, o, s, h1, h2, h3, h4 => by
    have hm : x.gKids.length ≤ maxLen := by rw [maxLen_eq]; omega
    unfold pspec_l12Words_L1
    by_cases hlt : j < x.gKids.length
    · rw [ns_drop hlt] at h3 h4
      have hl := W_len x.gKids[j] s
      rw [if_pos (by simpa using hlt), at_lt hlt]
      simp only [Option.bind_some]
      rw [hf _ (List.getElem_mem hlt) o s (by omega) (by omega)]
      simp only [Option.bind_some]
      rw [wr_succ hlt hm, l12Words_L1 hx hf m (j + 1) _ _ (by omega) (by omega) (by simp only [List.length_append]; omega) (by omega), Ws_drop hlt]
      simp only [List.append_assoc]
    · rw [if_neg (by simpa using hlt), List.drop_of_length_le (by omega), Ws, List.append_nil]

theorem l12Words : ∀ (k : Nat) (x : GTerm), maxLen + 2 * nT x + 2 < k → nT x ≤ 1048576 → ∀ o s, o.length + 1 + nT x ≤ 8388608 → s.length + 1 + nT x ≤ 8388608 → pspec_l12Words k x o s = some (o ++ (W x s).1, (W x s).2)
  | 0, x, h => by omega
  | k + 1, x, hw => by
    intro hn o s h1 h2
    have hk := nT_kids x
    have hlen := nsum_len nT x.gKids
    have hm : maxLen = 9223372036854775807 := maxLen_eq
    unfold pspec_l12Words
    rw [W_eq]
    by_cases c2 : x.gKind = 2
    · rw [if_pos (by simpa using c2), if_pos c2, if_pos (by simp; omega)]
    rw [if_neg (by simpa using c2), if_neg c2]
    by_cases c3 : x.gKind = 3
    · rw [if_pos (by simpa using c3), if_pos c3, if_pos (by simp; omega)]
    rw [if_neg (by simpa using c3), if_neg c3]
    by_cases c1 : x.gKind = 1
    · rw [if_pos (by simpa using c1), if_pos c1, l03Has _ (by omega) (by omega)]
      simp only [Option.bind_some]
      by_cases hs : x.gNum ∈ s
      · rw [if_pos (by simpa using hs), if_pos (by simp; omega), if_pos hs]
      · rw [if_neg (by simpa using hs), if_pos (by simp; omega), if_pos (by simp; omega), if_pos (by simp; omega), if_neg hs]
    rw [if_neg (by simpa using c1), if_neg c1, if_pos (by simp; omega)]
    have e := l12Words_L1 (k := k) (f := pspec_l12Words k) (x := x) (by omega) (fun y hy o s g1 g2 => by have := nsum_mem (n := nT) hy; exact l12Words k y (by omega) (by omega) o s g1 g2) k 0 (o ++ [GIns.mk 5 x.gName 0 (x.gKids.length : Int)]) s (by omega) (by omega) (by simp only [List.drop_zero, List.length_append, List.length_singleton]; omega) (by rw [List.drop_zero]; omega)
    rw [show ((0 : Nat) : Int) = 0 from rfl, List.drop_zero] at e
    rw [e]
    simp

theorem wordsOf_L1 {k : Nat} {x : GTerm} {f : GTerm → List Int → Option (List GIns × List Int)} (hx : x.gKids.length ≤ 1048576)
    (hf : ∀ y ∈ x.gKids, ∀ s, s.length + 1 + nT y ≤ 8388608 → f y s = some (W y s)) :
    ∀ (m j : Nat) (o : List GIns) (s : List Int), j ≤ x.gKids.length → x.gKids.length - j < m → o.length + nsum nT (x.gKids.drop j) ≤ 8388608 → s.length + nsum nT (x.gKids.drop j) ≤ 8388608 →
      pimpl_wordsOf_L1 k f x m s o (j : Int) = some (.done ((Ws (x.gKids.drop j) s).2, o ++ (Ws (x.gKids.drop j) s).1))
  | 0, j, o, s, h1, h2, h3, h4 => by omega
  | m + 1, j, o, s, h1, h2, h3, h4 => by
    have hm : x.gKids.length ≤ maxLen := by rw [maxLen_eq]; omega
    unfold pimpl_wordsOf_L1
    by_cases hlt : j < x.gKids.length
    · rw [ns_drop hlt] at h3 h4
      have hl := W_len x.gKids[j] s
      rw [if_pos (by simpa using hlt), at_lt hlt]
      simp only [Option.bind_some]
      rw [hf _ (List.getElem_mem hlt) s (by omega)]
      simp only [Option.bind_some]
      rw [if_pos (by omega), wr_succ hlt hm, wordsOf_L1 hx hf m (j + 1) _ _ (by omega) (by omega) (by simp only [List.length_append]; omega) (by omega), Ws_drop hlt]
      simp only [List.append_assoc]
    · rw [if_neg (by simpa using hlt), List.drop_of_length_le (by omega), Ws, List.append_nil]

theorem wordsOf : ∀ (k : Nat) (x : GTerm), maxLen + 2 * nT x + 2 < k → nT x ≤ 1048576 → ∀ s, s.length + 1 + nT x ≤ 8388608 → pimpl_wordsOf k x s = some (W x s)
  | 0, x, h => by omega
  | k + 1, x, hw => by
    intro hn s h2
    have hk := nT_kids x
    have hlen := nsum_len nT x.gKids
    have hm : maxLen = 9223372036854775807 := maxLen_eq
    unfold pimpl_wordsOf
    rw [W_eq]
    by_cases c2 : x.gKind = 2
    · rw [if_pos (by simpa using c2), if_pos c2]
    rw [if_neg (by simpa using c2), if_neg c2]
    by_cases c3 : x.gKind = 3
    · rw [if_pos (by simpa using c3), if_pos c3]
    rw [if_neg (by simpa using c3), if_neg c3]
    by_cases c1 : x.gKind = 1
    · rw [if_pos (by simpa using c1), if_pos c1, contains _ (by omega) (by omega)]
      simp only [Option.bind_some]
      by_cases hs : x.gNum ∈ s
      · rw [if_pos (by simpa using hs), if_pos hs]
      · rw [if_neg (by simpa using hs), if_pos (by simp; omega), if_neg hs]
    rw [if_neg (by simpa using c1), if_neg c1]
    have e := wordsOf_L1 (k := k) (f := pimpl_wordsOf k) (x := x) (by omega) (fun y hy s g2 => by have := nsum_mem (n := nT) hy; exact wordsOf k y (by omega) (by omega) s g2) k 0 [GIns.mk 5 x.gName 0 (x.gKids.length : Int)] s (by omega) (by omega) (by simp only [List.drop_zero, List.length_singleton]; omega) (by rw [List.drop_zero]; omega)
    rw [show ((0 : Nat) : Int) = 0 from rfl, List.drop_zero] at e
    rw [e]
    simp

/-- Each number once. -/
def uniq : List Int → List Int → List Int
  | [], o => o
  | x :: l, o => uniq l (if x ∈ o then o else o ++ [x])
theorem uniq_len : ∀ (l o : List Int), (uniq l o).length ≤ o.length + l.length
  | [], o => by simp [uniq]
  | x :: l, o => by
    have h := uniq_len l (if x ∈ o then o else o ++ [x])
    rw [uniq]
    split at h
    · rename_i c; rw [if_pos c]; simp only [List.length_cons]; omega
    · rename_i c; rw [if_neg c]; simp only [List.length_append, List.length_cons, List.length_nil] at h ⊢; omega
theorem uniq_drop {l : List Int} {j : Nat} (h : j < l.length) (o : List Int) : uniq (l.drop j) o = uniq (l.drop (j + 1)) (if l[j] ∈ o then o else o ++ [l[j]]) := by
  rw [List.drop_eq_getElem_cons h, uniq]
theorem specOwn {k : Nat} {l : List Int} (hl : l.length ≤ 8388608) (hk : maxLen < k) : ∀ (m j : Nat) (o : List Int), j ≤ l.length → l.length - j < m → o.length ≤ j → pspec_WordsOf_L1 k l m o (j : Int) = some (.done (uniq (l.drop j) o))
  | 0, j, o, h1, h2, h3 => by omega
  | m + 1, j, o, h1, h2, h3 => by
    have hm : l.length ≤ maxLen := by rw [maxLen_eq]; omega
    unfold pspec_WordsOf_L1
    by_cases hlt : j < l.length
    · rw [if_pos (by simpa using hlt), at_lt hlt]
      simp only [Option.bind_some]
      rw [l03Has _ (by omega) hk]
      simp only [Option.bind_some]
      rw [uniq_drop hlt, wr_succ hlt hm]
      by_cases hs : l[j] ∈ o
      · rw [if_neg (by simp [hs]), if_pos hs, specOwn hl hk m (j + 1) _ (by omega) (by omega) (by omega)]
      · rw [if_pos (by simp [hs]), if_neg hs, if_pos (by simp; omega), specOwn hl hk m (j + 1) _ (by omega) (by omega) (by simp; omega)]
    · rw [if_neg (by simpa using hlt), List.drop_of_length_le (by omega), uniq]
theorem implOwn {k : Nat} {l : List Int} (hl : l.length ≤ 8388608) (hk : maxLen < k) : ∀ (m j : Nat) (o : List Int), j ≤ l.length → l.length - j < m → o.length ≤ j → pimpl_WordsOf_L1 k l m o (j : Int) = some (.done (uniq (l.drop j) o))
  | 0, j, o, h1, h2, h3 => by omega
  | m + 1, j, o, h1, h2, h3 => by
    have hm : l.length ≤ maxLen := by rw [maxLen_eq]; omega
    unfold pimpl_WordsOf_L1
    by_cases hlt : j < l.length
    · rw [if_pos (by simpa using hlt), at_lt hlt]
      simp only [Option.bind_some]
      rw [contains _ (by omega) hk]
      simp only [Option.bind_some]
      rw [uniq_drop hlt, wr_succ hlt hm]
      by_cases hs : l[j] ∈ o
      · rw [if_neg (by simp [hs]), if_pos hs, implOwn hl hk m (j + 1) _ (by omega) (by omega) (by omega)]
      · rw [if_pos (by simp [hs]), if_neg hs, if_pos (by simp; omega), implOwn hl hk m (j + 1) _ (by omega) (by omega) (by simp; omega)]
    · rw [if_neg (by simpa using hlt), List.drop_of_length_le (by omega), uniq]

/-- What both answer. -/
def WO (t : GTerm) (l : List Int) : List GIns × List Int := if tOk t then W t (uniq l []) else ([], uniq l [])
theorem WO_len (t : GTerm) (l : List Int) (ht : nT t ≤ 1048576) : (WO t l).1.length ≤ 400 ∧ (WO t l).2.length ≤ l.length + 400 := by
  have h1 := W_len t (uniq l [])
  have h2 := uniq_len l []
  unfold WO
  cases h : tOk t with
  | false => rw [if_neg (by simp)]; simp at h2 ⊢; omega
  | true =>
    have : 1 + nT t ≤ 400 := by unfold tOk at h; simp at h; omega
    rw [if_pos rfl]; simp at h2; omega
theorem spec_WordsOf {k : Nat} {t : GTerm} {l : List Int} (hw : maxLen + 2 * nT t + 2 < k) (hn : nT t ≤ 1048576) (ht : t.ok) (hl : l.length ≤ 4194304) : pspec_WordsOf k t l = some (WO t l) := by
  have hu := uniq_len l []
  have e := specOwn (k := k) (l := l) (by omega) (by omega) k 0 [] (by omega) (by have := maxLen_eq; omega) (by simp)
  rw [show ((0 : Nat) : Int) = 0 from rfl, List.drop_zero] at e
  unfold pspec_WordsOf WO
  simp only [e, Option.bind_some, spec_TermOk hw ht]
  cases h : tOk t with
  | false => simp
  | true =>
    simp only [List.length_nil, Nat.zero_add] at hu
    rw [if_neg (by simp), l12Words k t hw hn [] (uniq l []) (by simp; omega) (by omega)]
    simp
theorem impl_WordsOf {k : Nat} {t : GTerm} {l : List Int} (hw : maxLen + 2 * nT t + 2 < k) (hn : nT t ≤ 1048576) (ht : t.ok) (hl : l.length ≤ 4194304) : pimpl_WordsOf k t l = some (WO t l) := by
  have hu := uniq_len l []
  have e := implOwn (k := k) (l := l) (by omega) (by omega) k 0 [] (by omega) (by have := maxLen_eq; omega) (by simp)
  rw [show ((0 : Nat) : Int) = 0 from rfl, List.drop_zero] at e
  unfold pimpl_WordsOf WO
  simp only [e, Option.bind_some, impl_TermOk hw ht]
  cases h : tOk t with
  | false => simp
  | true =>
    simp only [List.length_nil, Nat.zero_add] at hu
    rw [if_neg (by simp), wordsOf k t hw hn (uniq l []) (by omega)]
    simp
theorem l34Terms_L1 {k : Nat} {f : GTerm → Option GTerm} {g : List GTerm → Option (List GTerm)} {l : List GTerm} (hl : l.length ≤ 1048576) (hf : ∀ x ∈ l, f x = some x) :
    ∀ (m j : Nat), j ≤ l.length → l.length - j < m → pspec_l34Terms_L1 k f g l m (l.take j) (j : Int) = some (.done l)
  | 0, j, h1, h2 => by omega
  | m + 1, j, h1, h2 => by
    unfold pspec_l34Terms_L1
    have hm : l.length ≤ maxLen := by rw [maxLen_eq]; omega
    by_cases hlt : j < l.length
    · rw [if_pos (by simpa using hlt), at_lt hlt]
      simp only [Option.bind_some, hf _ (List.getElem_mem hlt)]
      rw [if_pos (by simp; omega), wr_succ hlt hm, ← List.take_succ_eq_append_getElem hlt]
      exact l34Terms_L1 hl hf m (j + 1) (by omega) (by omega)
    · rw [if_neg (by simpa using hlt), List.take_of_length_le (by omega)]
theorem l34Both : ∀ k : Nat, (∀ l, maxLen + 2 * nsum nT l + 1 < k → nsum nT l ≤ 16777216 → l.length ≤ 1048576 → (∀ x ∈ l, nT x ≤ 1048576) → pspec_l34Terms k l = some l) ∧ (∀ x, maxLen + 2 * nT x + 2 < k → nT x ≤ 1048576 → pspec_l34Term k x = some x)
  | 0 => ⟨fun l h => by omega, fun x h => by omega⟩
  | k + 1 => by
    obtain ⟨ih1, ih2⟩ := l34Both k
    refine ⟨fun l hw hl h3 h4 => ?_, fun x hw hx => ?_⟩
    · have := nsum_len nT l
      unfold pspec_l34Terms
      have e := l34Terms_L1 (k := k) (f := pspec_l34Term k) (g := pspec_l34Terms k) (l := l) (by omega) (fun x hx => by have := nsum_mem (n := nT) hx; exact ih2 x (by omega) (h4 x hx)) k 0 (by omega) (by omega)
      rw [show ((0 : Nat) : Int) = 0 from rfl, List.take_zero] at e
      rw [e]; rfl
    · have hk := nT_kids x
      have := nsum_len nT x.gKids
      unfold pspec_l34Term
      rw [ih1 x.gKids (by omega) (by omega) (by omega) (fun y hy => by have := nsum_mem (n := nT) hy; omega)]
      cases x; rfl
theorem l34Term {k : Nat} {x : GTerm} (hw : maxLen + 2 * nT x + 2 < k) (hx : nT x ≤ 1048576) : pspec_l34Term k x = some x := (l34Both k).2 x hw hx
theorem l34Terms {k : Nat} {l : List GTerm} (hw : maxLen + 2 * nsum nT l + 2 < k) (hx : nsum nT l ≤ 1048576) : pspec_l34Terms k l = some l := by
  have := nsum_len nT l
  exact (l34Both k).1 l (by omega) (by omega) (by omega) (fun x hx => by have := nsum_mem (n := nT) hx; omega)
theorem renamed_L2 {k : Nat} {f : GTerm → Option GTerm} {x : GTerm} {a c : Int} {b : ByteArray} (hl : x.gKids.length ≤ 1048576) (hf : ∀ y ∈ x.gKids, f y = some y) :
    ∀ (m j : Nat), j ≤ x.gKids.length → x.gKids.length - j < m → pimpl_renamed_on1_pimpl_copyTerm_1_L2 k f x m (j : Int) (.mk a b c (x.gKids.take j)) = some (.done (.mk a b c x.gKids))
  | 0, j, h1, h2 => by omega
  | m + 1, j, h1, h2 => by
    unfold pimpl_renamed_on1_pimpl_copyTerm_1_L2
    have hm : x.gKids.length ≤ maxLen := by rw [maxLen_eq]; omega
    by_cases hlt : j < x.gKids.length
    · rw [if_pos (by simpa using hlt), at_lt hlt]
      simp only [Option.bind_some, hf _ (List.getElem_mem hlt)]
      rw [show (GTerm.mk a b c (x.gKids.take j)).gKids = x.gKids.take j from rfl, show (GTerm.mk a b c (x.gKids.take j)).gKind = a from rfl, show (GTerm.mk a b c (x.gKids.take j)).gName = b from rfl, show (GTerm.mk a b c (x.gKids.take j)).gNum = c from rfl]
      rw [if_pos (by simp; omega), wr_succ hlt hm, ← List.take_succ_eq_append_getElem hlt]
      exact renamed_L2 hl hf m (j + 1) (by omega) (by omega)
    · rw [if_neg (by simpa using hlt), List.take_of_length_le (by omega)]
theorem renamed : ∀ (k : Nat) (x : GTerm), maxLen + 2 * nT x + 2 < k → nT x ≤ 1048576 → pimpl_renamed_on1_pimpl_copyTerm_1 k x = some x
  | 0, x, h => by omega
  | k + 1, x, hw => by
    intro hx
    have hk := nT_kids x
    have := nsum_len nT x.gKids
    have e := renamed_L2 (k := k) (f := pimpl_renamed_on1_pimpl_copyTerm_1 k) (x := x) (a := x.gKind) (b := x.gName) (c := x.gNum) (by omega) (fun y hy => by have := nsum_mem (n := nT) hy; exact renamed k y (by omega) (by omega)) k 0 (by omega) (by omega)
    rw [show ((0 : Nat) : Int) = 0 from rfl, List.take_zero] at e
    have hx : GTerm.mk x.gKind x.gName x.gNum x.gKids = x := by cases x; rfl
    rw [hx] at e
    have e2 : pimpl_renamed_on1_pimpl_copyTerm_1_J1 k (pimpl_renamed_on1_pimpl_copyTerm_1 k) x (GTerm.mk x.gKind x.gName x.gNum []) = some x := by
      unfold pimpl_renamed_on1_pimpl_copyTerm_1_J1; rw [e]; rfl
    unfold pimpl_renamed_on1_pimpl_copyTerm_1
    simp only [pimpl_copyTerm_1, Option.bind_some, e2]
    split <;> rfl
theorem copyTerm {k : Nat} {x : GTerm} (hw : maxLen + 2 * nT x + 2 < k) (hx : nT x ≤ 1048576) : pimpl_copyTerm k x = some x := by
  unfold pimpl_copyTerm; rw [renamed k x hw hx]; rfl
mutual
/-- The numbers of the variables of a term, in order. -/
def vs : GTerm → List Int
  | .mk a _ c l => (if a = 1 then [c] else []) ++ vss l
def vss : List GTerm → List Int
  | [] => []
  | x :: l => vs x ++ vss l
end
theorem vs_eq (x : GTerm) : vs x = (if x.gKind = 1 then [x.gNum] else []) ++ vss x.gKids := by cases x; rw [vs]; rfl
mutual
theorem vs_len : ∀ x : GTerm, (vs x).length ≤ 1 + nT x
  | .mk a b c l => by
    have h := vss_len l
    rw [vs, nT]
    split <;> simp <;> omega
theorem vss_len : ∀ l : List GTerm, (vss l).length ≤ nTs l
  | [] => by simp [vss, nTs]
  | x :: l => by
    have h1 := vs_len x
    have h2 := vss_len l
    rw [vss, nTs]
    simp only [List.length_append]; omega
end
theorem vss_drop {l : List GTerm} {j : Nat} (h : j < l.length) : vss (l.drop j) = vs l[j] ++ vss (l.drop (j + 1)) := by
  rw [List.drop_eq_getElem_cons h, vss]
theorem uniq_app : ∀ (a b o : List Int), uniq (a ++ b) o = uniq b (uniq a o)
  | [], b, o => by simp [uniq]
  | x :: a, b, o => by simp only [List.cons_append, uniq]; exact uniq_app a b _
theorem mem_uniq : ∀ (l o : List Int) (x : Int), x ∈ uniq l o ↔ x ∈ l ∨ x ∈ o
  | [], o, x => by simp [uniq]
  | y :: l, o, x => by
    rw [uniq, mem_uniq l]
    split
    · rename_i c
      constructor
      · rintro (h | h)
        · exact .inl (List.mem_cons_of_mem _ h)
        · exact .inr h
      · rintro (h | h)
        · rcases List.mem_cons.1 h with rfl | h
          · exact .inr c
          · exact .inl h
        · exact .inr h
    · simp only [List.mem_append, List.mem_cons, List.not_mem_nil, or_false]
      constructor
      · rintro (h | h | h)
        · exact .inl (.inr h)
        · exact .inr h
        · exact .inl (.inl h)
      · rintro ((h | h) | h)
        · exact .inr (.inr h)
        · exact .inl h
        · exact .inr (.inl h)

theorem l03Vars_L2 {k : Nat} {x : GTerm} {f : GTerm → List Int → Option (List Int)} (hx : x.gKids.length ≤ 1048576)
    (hf : ∀ y ∈ x.gKids, ∀ s, s.length + 1 + nT y ≤ 8388608 → f y s = some (uniq (vs y) s)) :
    ∀ (m j : Nat) (s : List Int), j ≤ x.gKids.length → x.gKids.length - j < m → s.length + nsum nT (x.gKids.drop j) ≤ 8388608 →
      pspec_l03Vars_L2 k f x m s (j : Int) = some (.done (uniq (vss (x.gKids.drop j)) s))
  | 0, j, s, h1, h2, h3 => by omega
  | m + 1, j, s, h1, h2, h3 => by
    have hm : x.gKids.length ≤ maxLen := by rw [maxLen_eq]; omega
    unfold pspec_l03Vars_L2
    by_cases hlt : j < x.gKids.length
    · rw [ns_drop hlt] at h3
      have hl := uniq_len (vs x.gKids[j]) s
      have hl2 := vs_len x.gKids[j]
      rw [if_pos (by simpa using hlt), at_lt hlt]
      simp only [Option.bind_some]
      rw [hf _ (List.getElem_mem hlt) s (by omega)]
      simp only [Option.bind_some]
      rw [wr_succ hlt hm, l03Vars_L2 hx hf m (j + 1) _ (by omega) (by omega) (by omega), vss_drop hlt, uniq_app]
    · rw [if_neg (by simpa using hlt), List.drop_of_length_le (by omega), vss, uniq]
theorem l03Vars : ∀ (k : Nat) (x : GTerm), maxLen + 2 * nT x + 2 < k → nT x ≤ 1048576 → ∀ s, s.length + 1 + nT x ≤ 8388608 → pspec_l03Vars k x s = some (uniq (vs x) s)
  | 0, x, h => by omega
  | k + 1, x, hw => by
    intro hn s h2
    have hk := nT_kids x
    have hlen := nsum_len nT x.gKids
    have hm : maxLen = 9223372036854775807 := maxLen_eq
    have e : ∀ s : List Int, s.length + nT x ≤ 8388608 → pspec_l03Vars_J1 k (pspec_l03Vars k) x s = some (uniq (vss x.gKids) s) := by
      intro s hs
      have e := l03Vars_L2 (k := k) (f := pspec_l03Vars k) (x := x) (by omega) (fun y hy s g2 => by have := nsum_mem (n := nT) hy; exact l03Vars k y (by omega) (by omega) s g2) k 0 s (by omega) (by omega) (by rw [List.drop_zero]; omega)
      rw [show ((0 : Nat) : Int) = 0 from rfl, List.drop_zero] at e
      unfold pspec_l03Vars_J1
      rw [e]; rfl
    unfold pspec_l03Vars
    rw [vs_eq]
    by_cases c1 : x.gKind = 1
    · rw [if_pos (by simpa using c1), if_pos c1, l03Has _ (by omega) (by omega)]
      simp only [Option.bind_some]
      unfold pspec_l03Vars_J3
      rw [List.singleton_append, uniq]
      by_cases hs : x.gNum ∈ s
      · rw [if_neg (by simp [hs]), if_pos hs, e s (by omega)]
      · rw [if_pos (by simp [hs]), if_neg hs, if_pos (by simp; omega), e _ (by simp; omega)]
    · rw [if_neg (by simpa using c1), if_neg c1]
      unfold pspec_l03Vars_J3
      rw [if_neg (by simp), List.nil_append, e s (by omega)]

/-- One more than the greatest of a list, at least b. -/
def IsMx (l : List Int) (b r : Int) : Prop := b ≤ r ∧ (∀ v ∈ l, v + 1 ≤ r) ∧ (r = b ∨ ∃ v ∈ l, r = v + 1)
theorem IsMx.uniq {l : List Int} {b r r' : Int} (h : IsMx l b r) (h' : IsMx l b r') : r = r' := by
  obtain ⟨h1, h2, h3⟩ := h
  obtain ⟨g1, g2, g3⟩ := h'
  rcases h3 with rfl | ⟨v, hv, rfl⟩
  · rcases g3 with rfl | ⟨u, hu, rfl⟩
    · rfl
    · have := h2 u hu; omega
  · have := g2 v hv
    rcases g3 with rfl | ⟨u, hu, rfl⟩
    · omega
    · have := h2 u hu; omega
theorem IsMx.same {l m : List Int} {b r : Int} (h : IsMx l b r) (e : ∀ x, x ∈ l ↔ x ∈ m) : IsMx m b r := by
  obtain ⟨h1, h2, h3⟩ := h
  refine ⟨h1, fun v hv => h2 v ((e v).2 hv), h3.imp id ?_⟩
  rintro ⟨v, hv, hr⟩
  exact ⟨v, (e v).1 hv, hr⟩
theorem IsMx.app {l m : List Int} {b c r : Int} (h : IsMx l b c) (g : IsMx m c r) : IsMx (l ++ m) b r := by
  obtain ⟨h1, h2, h3⟩ := h
  obtain ⟨g1, g2, g3⟩ := g
  refine ⟨by omega, fun v hv => ?_, ?_⟩
  · rcases List.mem_append.1 hv with hv | hv
    · have := h2 v hv; omega
    · exact g2 v hv
  · rcases g3 with rfl | ⟨u, hu, rfl⟩
    · exact h3.imp id fun ⟨v, hv, hr⟩ => ⟨v, List.mem_append_left _ hv, hr⟩
    · exact .inr ⟨u, List.mem_append_right _ hu, rfl⟩

def small (l : List Int) : Prop := ∀ v ∈ l, 0 ≤ v ∧ v ≤ 99999
theorem l11Many_L1 {k : Nat} {l : List Int} (hl : l.length ≤ maxLen) (hs : small l) : ∀ (m j : Nat) (b : Int), j ≤ l.length → l.length - j < m → 0 ≤ b → ∃ r, pspec_l11Many_L1 k l m b (j : Int) = some (.done r) ∧ IsMx (l.drop j) b r
  | 0, j, b, h1, h2, h3 => by omega
  | m + 1, j, b, h1, h2, h3 => by
    unfold pspec_l11Many_L1
    by_cases hlt : j < l.length
    · rw [if_pos (by simpa using hlt), at_lt hlt]
      simp only [Option.bind_some]
      have hv := hs _ (List.getElem_mem hlt)
      rw [wr_succ hlt hl, List.drop_eq_getElem_cons hlt]
      have one : ∀ c : Int, IsMx [l[j]] b c → ∀ r, IsMx (l.drop (j + 1)) c r → IsMx (l[j] :: l.drop (j + 1)) b r := fun c h r g => IsMx.app h g
      by_cases hb : l[j] ≥ b
      · rw [if_pos (by simpa using hb), wr_i64 (by omega) (by omega)]
        obtain ⟨r, e, h⟩ := l11Many_L1 (k := k) hl hs m (j + 1) (l[j] + 1) (by omega) (by omega) (by omega)
        exact ⟨r, e, one (l[j] + 1) ⟨by omega, fun v hv => by simp at hv; omega, .inr ⟨l[j], by simp, rfl⟩⟩ r h⟩
      · rw [if_neg (by simpa using hb)]
        obtain ⟨r, e, h⟩ := l11Many_L1 (k := k) hl hs m (j + 1) b (by omega) (by omega) h3
        exact ⟨r, e, one b ⟨by omega, fun v hv => by simp at hv; omega, .inl rfl⟩ r h⟩
    · rw [if_neg (by simpa using hlt), List.drop_of_length_le (by omega)]
      exact ⟨b, rfl, Int.le_refl _, (fun v hv => by cases hv), .inl rfl⟩

theorem varsUpTo_L1 {k : Nat} {l : List GTerm} {f : List GTerm → Option Int} (hl : l.length ≤ maxLen) (hs : small (vss l))
    (hf : ∀ x ∈ l, ∃ r, f x.gKids = some r ∧ IsMx (vss x.gKids) 0 r) :
    ∀ (m j : Nat) (b : Int), j ≤ l.length → l.length - j < m → 0 ≤ b → ∃ r, pimpl_varsUpTo_L1 k f l m b (j : Int) = some (.done r) ∧ IsMx (vss (l.drop j)) b r
  | 0, j, b, h1, h2, h3 => by omega
  | m + 1, j, b, h1, h2, h3 => by
    unfold pimpl_varsUpTo_L1
    by_cases hlt : j < l.length
    · rw [if_pos (by simpa using hlt), at_lt hlt]
      simp only [Option.bind_some]
      obtain ⟨q, e, g1, g2, g3⟩ := hf _ (List.getElem_mem hlt)
      rw [e, wr_succ hlt hl, vss_drop hlt, vs_eq]
      simp only [Option.bind_some]
      have kids : ∀ c : Int, 0 ≤ c → IsMx (vss l[j].gKids) c (if q > c then q else c) := by
        intro c hc
        by_cases hq : q > c
        · rw [if_pos hq]
          refine ⟨by omega, g2, ?_⟩
          rcases g3 with rfl | g3
          · omega
          · exact .inr g3
        · rw [if_neg hq]
          exact ⟨by omega, (fun v hv => by have := g2 v hv; omega), .inl rfl⟩
      by_cases c1 : l[j].gKind = 1
      · have hv : 0 ≤ l[j].gNum ∧ l[j].gNum ≤ 99999 := by
          refine hs _ ?_
          have : vss (l.drop j) = vs l[j] ++ vss (l.drop (j + 1)) := vss_drop hlt
          have hsub : ∀ (l : List GTerm) (y : GTerm), y ∈ l → ∀ v ∈ vs y, v ∈ vss l := by
            intro l
            induction l with
            | nil => intro y hy; cases hy
            | cons z l ih =>
              intro y hy v hv
              rw [vss, List.mem_append]
              rcases List.mem_cons.1 hy with rfl | hy
              · exact .inl hv
              · exact .inr (ih y hy v hv)
          refine hsub l l[j] (List.getElem_mem hlt) _ ?_
          rw [vs_eq, if_pos c1]; simp
        rw [if_pos (by simpa using c1), if_pos c1, wr_i64 (by omega) (by omega)]
        have hc : IsMx [l[j].gNum] b (if l[j].gNum + 1 > b then l[j].gNum + 1 else b) := by
          by_cases hq : l[j].gNum + 1 > b
          · rw [if_pos hq]; exact ⟨by omega, (fun v hv => by simp at hv; omega), .inr ⟨_, by simp, rfl⟩⟩
          · rw [if_neg hq]; exact ⟨by omega, (fun v hv => by simp at hv; omega), .inl rfl⟩
        generalize (if l[j].gNum + 1 > b then l[j].gNum + 1 else b) = c at hc ⊢
        have hc0 := hc.1
        have hk2 := kids c (by omega)
        generalize (if q > c then q else c) = c2 at hk2 ⊢
        have hc2 := hk2.1
        clear kids g1 g2 g3
        obtain ⟨r, e2, h⟩ := varsUpTo_L1 (k := k) hl hs hf m (j + 1) c2 (by omega) (by omega) (by omega)
        exact ⟨r, e2, (hc.app hk2).app h⟩
      · rw [if_neg (by simpa using c1), if_neg c1, List.nil_append]
        have hk2 := kids b h3
        generalize (if q > b then q else b) = c2 at hk2 ⊢
        have hc2 := hk2.1
        clear kids g1 g2 g3
        obtain ⟨r, e2, h⟩ := varsUpTo_L1 (k := k) hl hs hf m (j + 1) c2 (by omega) (by omega) (by omega)
        exact ⟨r, e2, hk2.app h⟩
    · rw [if_neg (by simpa using hlt), List.drop_of_length_le (by omega)]
      exact ⟨b, rfl, Int.le_refl _, (fun v hv => by cases hv), .inl rfl⟩

theorem varsUpTo : ∀ (k : Nat) (l : List GTerm), maxLen + 2 * nsum nT l + 2 < k → nsum nT l ≤ 1048576 → small (vss l) → ∃ r, pimpl_varsUpTo k l = some r ∧ IsMx (vss l) 0 r
  | 0, l, h => by omega
  | k + 1, l, hw => by
    intro hn hs
    have hlen := nsum_len nT l
    have hm : maxLen = 9223372036854775807 := maxLen_eq
    unfold pimpl_varsUpTo
    have hsub : ∀ (l : List GTerm) (y : GTerm), y ∈ l → ∀ v ∈ vss y.gKids, v ∈ vss l := by
      intro l
      induction l with
      | nil => intro y hy; cases hy
      | cons z l ih =>
        intro y hy v hv
        rw [vss, List.mem_append]
        rcases List.mem_cons.1 hy with rfl | hy
        · rw [vs_eq]; exact .inl (List.mem_append_right _ hv)
        · exact .inr (ih y hy v hv)
    obtain ⟨r, e, h⟩ := varsUpTo_L1 (k := k) (f := pimpl_varsUpTo k) (l := l) (by omega) hs (fun x hx => by have := nsum_mem (n := nT) hx; have hk := nT_kids x; exact varsUpTo k x.gKids (by omega) (by omega) (fun v hv => hs v (hsub l x hx v hv))) k 0 0 (by omega) (by omega) (by omega)
    rw [show ((0 : Nat) : Int) = 0 from rfl] at e
    rw [List.drop_zero] at h
    rw [e]
    exact ⟨r, rfl, h⟩

mutual
theorem gT_small : ∀ (x : GTerm) (d : Int), gT d x = true → small (vs x)
  | .mk a b c l, d, h => by
    rw [gT] at h
    simp only [Bool.and_eq_true] at h
    have hk := gTs_small l (d + 1) h.2.2
    have h1 := h.2.1
    rw [vs]
    intro v hv
    rcases List.mem_append.1 hv with hv | hv
    · by_cases c1 : a = 1
      · rw [if_pos c1] at hv
        simp only [List.mem_singleton] at hv
        subst hv
        unfold one at h1
        rw [if_pos (show (GTerm.mk a b v l).gKind = 1 from c1)] at h1
        simp only [Bool.and_eq_true] at h1
        have := h1.1
        unfold inR at this
        exact of_decide_eq_true this
      · rw [if_neg c1] at hv; cases hv
    · exact hk v hv
theorem gTs_small : ∀ (l : List GTerm) (d : Int), gTs d l = true → small (vss l)
  | [], d, h => fun v hv => by rw [vss] at hv; cases hv
  | x :: l, d, h => by
    rw [gTs] at h
    simp only [Bool.and_eq_true] at h
    have h1 := gT_small x d h.1
    have h2 := gTs_small l d h.2
    intro v hv
    rw [vss] at hv
    rcases List.mem_append.1 hv with hv | hv
    · exact h1 v hv
    · exact h2 v hv
end
theorem tOk_small {t : GTerm} (h : tOk t = true) : 1 + nT t ≤ 400 ∧ small (vs t) := by
  unfold tOk at h
  simp only [Bool.and_eq_true, decide_eq_true_eq] at h
  exact ⟨h.1, gT_small t 1 h.2⟩

theorem manyBoth {k : Nat} {x : GClause} (h1 : tOk x.gHead = true) (h2 : tOk x.gBody = true) (hk : maxLen + 1099511627776 < k) :
    ∃ r, pspec_l11Many k x = some r ∧ pimpl_varsUpTo k [x.gHead, x.gBody] = some r := by
  obtain ⟨n1, s1⟩ := tOk_small h1
  obtain ⟨n2, s2⟩ := tOk_small h2
  have hm : maxLen = 9223372036854775807 := maxLen_eq
  have hv : vs (.mk 4 (bs [58, 45]) 0 [x.gHead, x.gBody]) = vs x.gHead ++ vs x.gBody := by simp [vs, vss]
  have hn : nT (.mk 4 (bs [58, 45]) 0 [x.gHead, x.gBody]) = 2 + nT x.gHead + nT x.gBody := by simp only [nT, nTs]; omega
  have hvs : vss [x.gHead, x.gBody] = vs x.gHead ++ vs x.gBody := by simp [vss]
  have hs : small (vs x.gHead ++ vs x.gBody) := fun v hv => by
    rcases List.mem_append.1 hv with hv | hv
    · exact s1 v hv
    · exact s2 v hv
  have hns : nsum nT [x.gHead, x.gBody] = 2 + nT x.gHead + nT x.gBody := by simp only [nsum]; omega
  obtain ⟨r, e1, m1⟩ := varsUpTo k [x.gHead, x.gBody] (by omega) (by omega) (by rw [hvs]; exact hs)
  refine ⟨r, ?_, e1⟩
  unfold pspec_l11Many pspec_ClauseTerm pspec_l08ClauseTermRaw pspec_l03Two pspec_VarsOf
  simp only [Option.bind_some]
  generalize GTerm.mk 4 (bs [58, 45]) 0 [x.gHead, x.gBody] = t at hv hn
  rw [l34Term (by omega) (by omega)]
  simp only [Option.bind_some]
  rw [l03Vars k t (by omega) (by omega) [] (by simp; omega)]
  simp only [Option.bind_some]
  have hu := uniq_len (vs t) []
  have hvl := vs_len t
  have hmem : ∀ v, v ∈ uniq (vs t) [] ↔ v ∈ vs x.gHead ++ vs x.gBody := by
    intro v
    rw [mem_uniq, hv]
    exact ⟨fun h => h.resolve_right (fun h => by cases h), .inl⟩
  obtain ⟨r', e2, m2⟩ := l11Many_L1 (k := k) (l := uniq (vs t) []) (by simp at hu; omega) (fun v hv => hs v ((hmem v).1 hv)) k 0 0 (by omega) (by simp at hu; omega) (by omega)
  rw [show ((0 : Nat) : Int) = 0 from rfl] at e2
  rw [e2]
  rw [List.drop_zero] at m2
  have : r' = r := IsMx.uniq (m2.same hmem) (by rw [hvs] at m1; exact m1)
  rw [this]; rfl

theorem codeSame {k : Nat} {x : GClause} (n1 : nT x.gHead ≤ 1048576) (n2 : nT x.gBody ≤ 1048576) (h1 : x.gHead.ok) (h2 : x.gBody.ok) (hk : maxLen + 1099511627776 < k) :
    ∃ p, pspec_CodeOf k x = some p ∧ pimpl_CodeOf k x = some p ∧ p.1.gHead.length ≤ 400 ∧ p.1.gBody.length ≤ 400 := by
  have f1 := spec_TermOk (k := k) (x := x.gHead) (by omega) h1
  have f2 := impl_TermOk (k := k) (x := x.gHead) (by omega) h1
  have f3 := spec_TermOk (k := k) (x := x.gBody) (by omega) h2
  have f4 := impl_TermOk (k := k) (x := x.gBody) (by omega) h2
  unfold pspec_CodeOf pimpl_CodeOf
  simp only [f1, f2, f3, f4, Option.bind_some]
  cases c1 : tOk x.gHead with
  | false => simp only [Bool.not_false, if_true]; exact ⟨_, rfl, rfl, by simp, by simp⟩
  | true =>
    simp only [Bool.not_true, Bool.false_eq_true, if_false]
    cases c2 : tOk x.gBody with
    | false => simp only [Bool.not_false, if_true]; exact ⟨_, rfl, rfl, by simp, by simp⟩
    | true =>
      simp only [Bool.not_true, Bool.false_eq_true, if_false]
      have l1 := WO_len x.gHead [] n1
      have l2 := WO_len x.gBody (WO x.gHead []).2 n2
      simp only [List.length_nil] at l1
      rw [spec_WordsOf (k := k) (t := x.gHead) (l := []) (by omega) n1 h1 (by simp), impl_WordsOf (k := k) (t := x.gHead) (l := []) (by omega) n1 h1 (by simp)]
      simp only [Option.bind_some]
      rw [spec_WordsOf (k := k) (t := x.gBody) (by omega) n2 h2 (by omega), impl_WordsOf (k := k) (t := x.gBody) (by omega) n2 h2 (by omega)]
      simp only [Option.bind_some]
      obtain ⟨r, e1, e2⟩ := manyBoth c1 c2 hk
      rw [e1, e2]
      exact ⟨_, rfl, rfl, l1.1, l2.1⟩

theorem l34Clause {k : Nat} {x : GClause} (hw : maxLen + 2 * nClause x + 2 < k) (hx : nClause x ≤ 1048576) : pspec_l34Clause k x = some x := by
  unfold nClause at *
  unfold pspec_l34Clause
  rw [l34Term (k := k) (x := x.gHead) (by omega) (by omega), l34Term (k := k) (x := x.gBody) (by omega) (by omega)]
  rfl
theorem l34Strings {k : Nat} {l : List ByteArray} (hx : l.length ≤ 1048576) : pspec_l34Strings k l = some l := by
  unfold pspec_l34Strings
  rw [if_pos (by simp; omega)]
theorem copyClause {k : Nat} {x : GClause} (hw : maxLen + 2 * nClause x + 2 < k) (hx : nClause x ≤ 1048576) : pimpl_copyClause k x = some x := by
  unfold nClause at *
  unfold pimpl_copyClause
  rw [copyTerm (k := k) (x := x.gHead) (by omega) (by omega), copyTerm (k := k) (x := x.gBody) (by omega) (by omega)]
  rfl
theorem nflat {α : Type} : ∀ l : List α, nsum (fun _ => 0) l = l.length
  | [] => rfl
  | x :: l => by simp only [nsum, nflat l, List.length_cons]; omega
theorem nIns_len (l : List GIns) : nsum nIns l = l.length := by
  have : nIns = fun _ => 0 := by funext x; rfl
  rw [this]; exact nflat l
theorem l34Inss {k : Nat} {l : List GIns} (hx : l.length ≤ 1048576) : pspec_l34Inss k l = some l := by
  unfold pspec_l34Inss
  rw [if_pos (by simp; omega)]
theorem l34Code {k : Nat} {x : GCode} (h1 : x.gHead.length ≤ 1048576) (h2 : x.gBody.length ≤ 1048576) : pspec_l34Code k x = some x := by
  unfold pspec_l34Code
  rw [l34Inss h1, l34Inss h2]; rfl
def kOk (x : GKept) : Prop := nClause x.gClause ≤ 1048576 ∧ x.gCode.gHead.length ≤ 1048576 ∧ x.gCode.gBody.length ≤ 1048576
theorem l34Kept {k : Nat} {x : GKept} (hk : maxLen + 1099511627776 < k) (hx : kOk x) : pspec_l34Kept k x = some x := by
  obtain ⟨h1, h2, h3⟩ := hx
  unfold pspec_l34Kept
  rw [l34Clause (by omega) h1, l34Code h2 h3]; rfl
theorem l34Kepts_L1 {k : Nat} {l : List GKept} (hl : l.length ≤ 1048576) (hf : ∀ x ∈ l, pspec_l34Kept k x = some x) :
    ∀ (m j : Nat), j ≤ l.length → l.length - j < m → pspec_l34Kepts_L1 k l m (l.take j) (j : Int) = some (.done l)
  | 0, j, h1, h2 => by omega
  | m + 1, j, h1, h2 => by
    unfold pspec_l34Kepts_L1
    have hm : l.length ≤ maxLen := by rw [maxLen_eq]; omega
    by_cases hlt : j < l.length
    · rw [if_pos (by simpa using hlt), at_lt hlt]
      simp only [Option.bind_some, hf _ (List.getElem_mem hlt)]
      rw [if_pos (by simp; omega), wr_succ hlt hm, ← List.take_succ_eq_append_getElem hlt]
      exact l34Kepts_L1 hl hf m (j + 1) (by omega) (by omega)
    · rw [if_neg (by simpa using hlt), List.take_of_length_le (by omega)]
theorem l34Kepts {k : Nat} {l : List GKept} (hk : maxLen + 1099511627776 < k) (hl : l.length ≤ 1048576) (hx : ∀ x ∈ l, kOk x) : pspec_l34Kepts k l = some l := by
  unfold pspec_l34Kepts
  have hm := maxLen_eq
  have e := l34Kepts_L1 (k := k) (l := l) hl (fun x hm => l34Kept hk (hx x hm)) k 0 (by omega) (by omega)
  rw [show ((0 : Nat) : Int) = 0 from rfl, List.take_zero] at e
  rw [e]; rfl
/-- The code of a clause. -/
def CO (k : Nat) (x : GClause) : GCode × Bool := (pspec_CodeOf k x).getD (GCode.mk [] [] 0, false)
theorem CO_spec {k : Nat} {x : GClause} (hn : nClause x ≤ 1048576) (hx : x.ok) (hk : maxLen + 1099511627776 < k) :
    pspec_CodeOf k x = some (CO k x) ∧ pimpl_CodeOf k x = some (CO k x) ∧ (CO k x).1.gHead.length ≤ 400 ∧ (CO k x).1.gBody.length ≤ 400 := by
  unfold nClause at hn
  obtain ⟨p, e1, e2, h1, h2⟩ := codeSame (k := k) (x := x) (by omega) (by omega) hx.1 hx.2.1 hk
  have : CO k x = p := by unfold CO; rw [e1]; rfl
  rw [this]
  exact ⟨e1, e2, h1, h2⟩
def KO (k : Nat) (x : GClause) : GKept := GKept.mk x (GCode.mk (CO k x).1.gHead (CO k x).1.gBody (CO k x).1.gVars) 0 0
theorem both_L1 {k : Nat} {x : GDb} (hl : nsum nClause x.gClauses ≤ 1048576) (hx : okL GClause.ok x.gClauses) (hk : maxLen + 1099511627776 < k) : ∀ (m j : Nat) (c : List GKept) (o : List ByteArray) (v : Int), j ≤ x.gClauses.length → x.gClauses.length - j < m → c.length ≤ j →
    pspec_l15StoreOfRaw_L1 k x m (j : Int) (.mk c o v) = some (.done (.mk (c ++ (x.gClauses.drop j).map (KO k)) o v)) ∧ pimpl_StoreOf_L1 k x m (j : Int) (.mk c o v) = some (.done (.mk (c ++ (x.gClauses.drop j).map (KO k)) o v))
  | 0, j, c, o, v, h1, h2, h3 => by omega
  | m + 1, j, c, o, v, h1, h2, h3 => by
    have hlen := nsum_len nClause x.gClauses
    have hm : x.gClauses.length ≤ maxLen := by rw [maxLen_eq]; omega
    unfold pspec_l15StoreOfRaw_L1 pimpl_StoreOf_L1
    by_cases hlt : j < x.gClauses.length
    · have hmem := nsum_mem (n := nClause) (List.getElem_mem hlt)
      obtain ⟨e1, e2, _, _⟩ := CO_spec (k := k) (x := x.gClauses[j]) (by omega) (hx.2 _ (List.getElem_mem hlt)) hk
      rw [if_pos (by simpa using hlt), if_pos (by simpa using hlt), at_lt hlt]
      simp only [Option.bind_some, e1, e2]
      rw [copyClause (by omega) (by omega)]
      simp only [Option.bind_some]
      rw [wr_succ hlt hm, if_pos (by simp; omega), if_pos (by simp; omega), List.drop_eq_getElem_cons hlt]
      have := both_L1 hl hx hk m (j + 1) (c ++ [KO k x.gClauses[j]]) o v (by omega) (by omega) (by simp; omega)
      have ea : c ++ (x.gClauses[j] :: x.gClauses.drop (j + 1)).map (KO k) = (c ++ [KO k x.gClauses[j]]) ++ (x.gClauses.drop (j + 1)).map (KO k) := by rw [List.map_cons, List.append_assoc]; rfl
      rw [ea]
      exact this
    · rw [if_neg (by simpa using hlt), if_neg (by simpa using hlt), List.drop_of_length_le (by omega), List.map_nil, List.append_nil]
      exact ⟨rfl, rfl⟩
theorem nK {k : Nat} (hk : maxLen + 1099511627776 < k) : ∀ l : List GClause, nsum nClause l ≤ 1048576 → (∀ x ∈ l, x.ok) → nsum nKept (l.map (KO k)) ≤ 802 * nsum nClause l
  | [], h, _ => by simp [nsum]
  | x :: l, h, hx => by
    simp only [nsum] at h
    have h1 := nK hk l (by omega) (fun y hy => hx y (by simp [hy]))
    obtain ⟨_, _, h2, h3⟩ := CO_spec (k := k) (x := x) (by omega) (hx x (by simp)) hk
    have a := nIns_len (CO k x).1.gHead
    have b := nIns_len (CO k x).1.gBody
    simp only [List.map_cons, nsum]
    have h4 : nKept (KO k x) = nClause x + (nsum nIns (CO k x).1.gHead + nsum nIns (CO k x).1.gBody) := rfl
    omega

theorem same {k : Nat} {x : GDb} (hn : nDb x ≤ 1048576) (hx : x.ok) (hk : maxLen + 1099511627776 < k) :
    ∃ p, pspec_StoreOf k x = some p ∧ pimpl_StoreOf k x = some p ∧ nStore p ≤ 1000000000 := by
  have hm : maxLen = 9223372036854775807 := maxLen_eq
  unfold nDb at hn
  have no := nflat x.gOpen
  have hlen := nsum_len nClause x.gClauses
  obtain ⟨e1, e2⟩ := both_L1 (k := k) (x := x) (by omega) hx.1 hk k 0 [] x.gOpen 1 (by omega) (by omega) (by simp)
  rw [show ((0 : Nat) : Int) = 0 from rfl, List.drop_zero, List.nil_append] at e1 e2
  have hK := nK (k := k) hk x.gClauses (by omega) hx.1.2
  have c1 := l34Kepts (k := k) (l := x.gClauses.map (KO k)) hk (by simp; omega) (fun y hy => by
    obtain ⟨z, hz, rfl⟩ := List.mem_map.1 hy
    have hmem := nsum_mem (n := nClause) hz
    obtain ⟨_, _, h2, h3⟩ := CO_spec (k := k) (x := z) (by omega) (hx.1.2 z hz) hk
    exact ⟨by show nClause z ≤ _; omega, by show (CO k z).1.gHead.length ≤ _; omega, by show (CO k z).1.gBody.length ≤ _; omega⟩)
  have c2 := l34Strings (k := k) (l := x.gOpen) (by omega)
  unfold pspec_StoreOf pspec_l15StoreOfRaw pimpl_StoreOf pspec_l34Store
  rw [if_pos (by simp; omega), if_pos (by simp; omega), e1, e2]
  simp only [Option.bind_some, c1, c2]
  exact ⟨_, rfl, rfl, by unfold nStore; simp only []; omega⟩

theorem d_same : @pimpl_StoreOf_d = @pimpl_StoreOf := by kernel_rfl

theorem law (x : GDb) (hx : x.ok) : ∃ k, plaws_FnExactStoreOf k x = some true := by
  obtain ⟨k, hk⟩ : ∃ k, maxLen + 4 * nDb x + 1099511627776 < k := ⟨_, Nat.lt_succ_self _⟩
  refine ⟨k, ?_⟩
  have hm : maxLen = 9223372036854775807 := maxLen_eq
  have hH : Huge = 1152921504606846976 := rfl
  have hw : maxLen + 2 * nDb x + 2 < k := by omega
  unfold plaws_FnExactStoreOf
  obtain ⟨r, e1, h2, h3⟩ := szDb (k := k) hw hx 1048576 (by omega) (by unfold Small; omega)
  rw [e1]
  simp only [Option.bind_some]
  by_cases hr : r < 0
  · rw [if_pos (by simpa using hr)]
  rw [if_neg (by simpa using hr)]
  have hn : nDb x ≤ 1048576 := by omega
  have t0 := toDb (k := k) hw hn
  have t1 : plaws_toDb_d k x = some x := by rw [plaws_toDb_dd]; exact t0
  obtain ⟨p, e2, e3, np⟩ := same (k := k) (x := x) hn hx (by omega)
  have e4 : pimpl_StoreOf_d k x = some p := by rw [d_same]; exact e3
  obtain ⟨u, c, a1, a4, a5⟩ := markDb (k := k) (x := x) hw 1 (by omega) (by omega)
  obtain ⟨z, d, b1, b2, b3, b4, b5⟩ := markStore (k := k) (x := p) (by omega) 1 (by omega) (by omega)
  have q1 := eqStore (k := k) (x := p) (by omega) (by omega)
  have q2 := eqDb (k := k) (x := x) hw (by omega)
  have hc : ∀ c : Int, 1 ≤ c → (decide (c < 0)) = false := fun c h => by simpa using (by omega : 0 ≤ c)
  have eta : ∀ x : GStore, GStore.mk x.gList x.gOpen x.gNow = x := fun x => rfl
  simp only [t0, t1, e2, e3, e4, eta, q1, q2, a1, b1, b2, b3, hc c (by omega), hc d b4, Option.bind_some, Bool.not_true, Bool.false_eq_true, if_false, bne_self_eq_false, beq_self_eq_true]
end FnExactStoreOf
end Go.Proofs.Ytgfpmdaihkdhkaa

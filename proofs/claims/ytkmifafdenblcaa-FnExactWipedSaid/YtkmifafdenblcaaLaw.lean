/- The law, plainly. -/
import Derived.Test.YtkmifafdenblcaaFn
set_option linter.unusedVariables false
set_option linter.unusedSimpArgs false
namespace Go.Proofs.Ytkmifafdenblcaa
open Go.RowKit Go.Bv
namespace FnExactWiped
/-- Room for the marks. -/
theorem markText_loop (k : Nat) : ∀ (j m : Nat) (b : Int) (e : ByteArray), j < m → 0 ≤ b → b < 2 ^ j → j ≤ 61 → e.size + j ≤ 1000 →
    ∃ s, plaws_markText_L1 k m b e = some (.done s) ∧ s.size ≤ 1000
  | j, 0, b, e, h1, _, _, _, _ => by omega
  | 0, m + 1, b, e, h1, h2, h3, h4, h5 => by
    unfold plaws_markText_L1
    rw [if_neg (by simp at h3 ⊢; omega)]
    exact ⟨e, rfl, by omega⟩
  | j + 1, m + 1, b, e, h1, h2, h3, h4, h5 => by
    unfold plaws_markText_L1
    by_cases hb : b > 0
    · have hp : (2 : Int) ^ (j + 1) = 2 * 2 ^ j := by rw [Int.pow_succ]; omega
      have hj : (2 : Int) ^ j ≤ 2 ^ 61 := by
        have : (2 : Nat) ^ j ≤ 2 ^ 61 := Nat.pow_le_pow_right (by omega) (by omega)
        exact_mod_cast this
      have hq : Int.tdiv b 10 = b / 10 := Int.tdiv_eq_ediv_of_nonneg h2
      have hs : (strOfNums [wr.u8 (wr.i64 (48 + (Int.tmod b 10)))]).size = 1 := rfl
      rw [if_pos (by simpa using hb), if_pos (by omega), if_pos (by unfold sumOk; rw [hs]; omega), if_pos (by omega), hq, wr_i64 (by omega) (by omega)]
      exact markText_loop k j m (b / 10) _ (by omega) (by omega) (by omega) (by omega) (by rw [ByteArray.size_append, hs]; omega)
    · rw [if_neg (by simpa using hb)]; exact ⟨e, rfl, by omega⟩

theorem markText {k : Nat} (hk : maxLen < k) (b : Int) (h0 : 0 ≤ b) (h1 : b ≤ Huge) : ∃ s, plaws_markText k b = some s := by
  unfold plaws_markText
  by_cases hb : b ≤ 0
  · rw [if_pos (by simpa using hb)]; exact ⟨_, rfl⟩
  · rw [if_neg (by simpa using hb)]
    rw [maxLen_eq] at hk
    have hH : Huge = 1152921504606846976 := rfl
    have hp : (2 : Int) ^ 61 = 2305843009213693952 := by decide
    obtain ⟨s, h2, h3⟩ := markText_loop k 61 k b (bs []) (by omega) h0 (by rw [hp]; omega) (by omega) (by have : (bs []).size = 0 := rfl; omega)
    rw [h2]
    simp only [Option.bind_some]
    rw [if_pos (by unfold sumOk; have : (bs [109]).size = 1 := rfl; omega)]
    exact ⟨_, rfl⟩
mutual
/-- How many terms stand in a term. -/
def nT : GTerm → Nat
  | .mk _ _ _ l => nTs l
def nTs : List GTerm → Nat
  | [] => 0
  | x :: l => 1 + nT x + nTs l
end
theorem nTs_eq : ∀ l : List GTerm, nTs l = nsum nT l
  | [] => by rw [nTs]; rfl
  | x :: l => by rw [nTs, nsum, nTs_eq l]
theorem nT_kids (x : GTerm) : nT x = nsum nT x.gKids := by
  cases x with
  | mk a b c l => rw [nT, nTs_eq]; rfl

theorem ok_kids {x : GTerm} (h : x.ok) : okL GTerm.ok x.gKids := by cases h with | mk a b c l h1 h2 h3 h4 h5 => exact ⟨h4, h5⟩
theorem ok_name {x : GTerm} (h : x.ok) : okFs x.gName := by cases h with | mk a b c l h1 h2 h3 h4 h5 => exact h2
theorem ok_kind {x : GTerm} (h : x.ok) : okI .i64 x.gKind := by cases h with | mk a b c l h1 h2 h3 h4 h5 => exact h1
theorem ok_num {x : GTerm} (h : x.ok) : okI .i64 x.gNum := by cases h with | mk a b c l h1 h2 h3 h4 h5 => exact h3

theorem mk_gKind (a : Int) (b : ByteArray) (c : Int) (l : List GTerm) : (GTerm.mk a b c l).gKind = a := rfl
theorem mk_gName (a : Int) (b : ByteArray) (c : Int) (l : List GTerm) : (GTerm.mk a b c l).gName = b := rfl
theorem mk_gNum (a : Int) (b : ByteArray) (c : Int) (l : List GTerm) : (GTerm.mk a b c l).gNum = c := rfl
theorem mk_gKids (a : Int) (b : ByteArray) (c : Int) (l : List GTerm) : (GTerm.mk a b c l).gKids = l := rfl
theorem szBoth : ∀ N k : Nat,
    (∀ l, maxLen + 2 * nsum nT l + 1 < k → nsum nT l ≤ N → okL GTerm.ok l → ∀ b : Int, 0 ≤ b → b ≤ Small → ∃ r, plaws_szTermS k l b = some r ∧ -1 ≤ r ∧ (0 ≤ r → r + (nsum nT l : Int) ≤ b)) ∧
    (∀ x, maxLen + 2 * nT x + 2 < k → nT x ≤ N → x.ok → ∀ b : Int, 0 ≤ b → b ≤ Small → ∃ r, plaws_szTerm k x b = some r ∧ -1 ≤ r ∧ (0 ≤ r → r + (nT x : Int) ≤ b))
  | N, 0 => ⟨fun l h => by omega, fun x h => by omega⟩
  | N, k + 1 => by
    obtain ⟨ih1, ih2⟩ := szBoth N k
    refine ⟨?_, ?_⟩
    · intro l hw hN hl b h0 h1
      exact sz2 (f := plaws_szTerm k) (L := plaws_szTermS_L1 k (plaws_szTerm k) (plaws_szTermS k) l) hl.1 (fun x hx b h0 h1 => by have := nsum_mem (n := nT) hx; exact ih2 x (by omega) (by omega) (hl.2 x hx) b h0 h1) (fun m b i => rfl) (by omega) b h0 h1
    · intro x hw hN hx b h0 h1
      have hn := ok_name hx
      unfold okFs at hn
      have h1' := h1
      unfold Small at h1'
      rw [maxLen_eq] at hn
      have hk := nT_kids x
      unfold plaws_szTerm
      rw [wr_i64 (by omega) (by omega)]
      split
      · exact ⟨_, rfl, by omega, by omega⟩
      · rename_i h
        simp at h
        obtain ⟨r, h2, h3, h4⟩ := ih1 x.gKids (by omega) (by omega) (ok_kids hx) (b - (x.gName.size : Int)) (by omega) (by unfold Small; omega)
        rw [h2]
        simp only [Option.bind_some]
        split
        · exact ⟨_, rfl, by omega, by omega⟩
        · exact ⟨_, rfl, h3, by omega⟩
theorem szTermS {k : Nat} {l : List GTerm} (hw : maxLen + 2 * nsum nT l + 2 < k) (hl : okL GTerm.ok l) (b : Int) (h0 : 0 ≤ b) (h1 : b ≤ Small) : ∃ r, plaws_szTermS k l b = some r ∧ -1 ≤ r ∧ (0 ≤ r → r + (nsum nT l : Int) ≤ b) :=
  (szBoth (nsum nT l) k).1 l (by omega) (Nat.le_refl _) hl b h0 h1
theorem szTerm {k : Nat} {x : GTerm} (hw : maxLen + 2 * nT x + 2 < k) (hx : x.ok) (b : Int) (h0 : 0 ≤ b) (h1 : b ≤ Small) : ∃ r, plaws_szTerm k x b = some r ∧ -1 ≤ r ∧ (0 ≤ r → r + (nT x : Int) ≤ b) :=
  (szBoth (nT x) k).2 x hw (Nat.le_refl _) hx b h0 h1

theorem toBoth : ∀ k : Nat, (∀ l, maxLen + 2 * nsum nT l + 1 < k → nsum nT l ≤ 1048576 → plaws_toTermS k l = some l) ∧ (∀ x, maxLen + 2 * nT x + 2 < k → nT x ≤ 1048576 → plaws_toTerm k x = some x)
  | 0 => ⟨fun l h => by omega, fun x h => by omega⟩
  | k + 1 => by
    obtain ⟨ih1, ih2⟩ := toBoth k
    refine ⟨?_, ?_⟩
    · intro l hw hl
      have := nsum_len nT l
      have h := to2 (f := plaws_toTerm k) (L := plaws_toTermS_L1 k (plaws_toTerm k) (plaws_toTermS k) l) (by omega) (fun x hx => by have := nsum_mem (n := nT) hx; exact ih2 x (by omega) (by omega)) (fun m i o => rfl) (k := k) (by omega) (GTerm.mk 0 (bs []) 0 [])
      unfold plaws_toTermS
      rw [if_pos h.1, h.2]; rfl
    · intro x hw hx
      have hk := nT_kids x
      unfold plaws_toTerm
      rw [ih1 x.gKids (by omega) (by omega)]
      cases x; rfl
theorem toTermS {k : Nat} {l : List GTerm} (hw : maxLen + 2 * nsum nT l + 2 < k) (hl : nsum nT l ≤ 1048576) : plaws_toTermS k l = some l := (toBoth k).1 l (by omega) hl
theorem toTerm {k : Nat} {x : GTerm} (hw : maxLen + 2 * nT x + 2 < k) (hl : nT x ≤ 1048576) : plaws_toTerm k x = some x := (toBoth k).2 x hw hl

theorem eqBoth : ∀ k : Nat, (∀ l, maxLen + 2 * nsum nT l + 1 < k → nsum nT l ≤ Huge → plaws_eqTermS k l l = some true) ∧ (∀ x, maxLen + 2 * nT x + 2 < k → nT x ≤ Huge → plaws_eqTerm k x x = some true)
  | 0 => ⟨fun l h => by omega, fun x h => by omega⟩
  | k + 1 => by
    obtain ⟨ih1, ih2⟩ := eqBoth k
    refine ⟨?_, ?_⟩
    · intro l hw hl
      have := nsum_len nT l
      exact eq2 (f := plaws_eqTerm k) (L := plaws_eqTermS_L1 k (plaws_eqTerm k) (plaws_eqTermS k) l l) (by omega) (fun x hx => by have := nsum_mem (n := nT) hx; exact ih2 x (by omega) (by omega)) (fun m i => rfl) (by omega)
    · intro x hw hx
      have hk := nT_kids x
      unfold plaws_eqTerm
      rw [ih1 x.gKids (by omega) (by omega)]
      simp [sEq_refl]
theorem eqTermS {k : Nat} {l : List GTerm} (hw : maxLen + 2 * nsum nT l + 2 < k) (hl : nsum nT l ≤ Huge) : plaws_eqTermS k l l = some true := (eqBoth k).1 l (by omega) hl
theorem eqTerm {k : Nat} {x : GTerm} (hw : maxLen + 2 * nT x + 2 < k) (hl : nT x ≤ Huge) : plaws_eqTerm k x x = some true := (eqBoth k).2 x hw hl
theorem markTermS1 : ∀ (k : Nat) (l : List GTerm), maxLen + 2 * nsum nT l + 1 < k → ∀ b : Int, 1 ≤ b → b + 16 * (nsum nT l : Int) ≤ Huge →
    ∃ l' c, plaws_markTermS k l b = some (l', c) ∧ plaws_heldTermS k l' b = some c ∧ b ≤ c ∧ c ≤ b + 16 * (nsum nT l : Int)
  | 0, l, h => by omega
  | k + 1, l, hw => by
    intro b h1 h2
    have hH : Huge = 1152921504606846976 := rfl
    have key := mark2 (n := nT) (ok := fun x => maxLen + 2 * nT x + 1 < k)
      (good := fun b x c => 1 ≤ b ∧ b ≤ c ∧ c ≤ Huge ∧ x.gKind = b ∧ plaws_markText k (b + 1) = some x.gName ∧ x.gNum = b + 2 ∧ b + 3 ≤ Huge ∧ plaws_heldTermS k x.gKids (b + 3) = some c)
      (L := plaws_markTermS_L1 k (plaws_markTermS k)) (H := plaws_heldTermS_L1 k (plaws_heldTermS k))
      (fun m b l => by unfold plaws_markTermS_L1; rw [if_neg (by simp)])
      (fun m b j l x hx hj hat h1 h2 => by
        have hk := nT_kids x
        obtain ⟨s, hs⟩ := markText (k := k) (by omega) (b + 1) (by omega) (by omega)
        obtain ⟨l', c, e1, e2, e3, e4⟩ := markTermS1 k x.gKids (by omega) (b + 3) (by omega) (by omega)
        refine ⟨.mk b s (b + 2) l', c, ⟨h1, by omega, by omega, rfl, hs, rfl, by omega, e2⟩, by omega, by omega, fun hlt => ?_⟩
        have w1 : wr.i64 (b + 1) = b + 1 := by have := wr_i64 (x := b + 1) (by omega) (by omega); omega
        have w2 : wr.i64 (b + 1 + 1) = b + 2 := by have := wr_i64 (x := b + 1 + 1) (by omega) (by omega); omega
        have w3 : wr.i64 (b + 2 + 1) = b + 3 := by have := wr_i64 (x := b + 2 + 1) (by omega) (by omega); omega
        have hset : ∀ (l : List GTerm) (y z : GTerm), at' l (j : Int) = some y → at' (l.set ((j : Int)).toNat z) (j : Int) = some z := fun l y z h => at_is h
        rw [plaws_markTermS_L1, if_pos (by simpa using hlt), hat]
        simp only [Option.bind_some, w1, w2, w3, hs]
        rw [hset _ _ _ hat]
        simp only [Option.bind_some]
        rw [hset _ _ _ (hset _ _ _ hat)]
        simp only [Option.bind_some]
        rw [hset _ _ _ (hset _ _ _ (hset _ _ _ hat))]
        simp only [Option.bind_some, mk_gKids, mk_gKind, mk_gName, mk_gNum]
        simp only [e1, Option.bind_some, cast_succ hj, List.set_set, Int.toNat_natCast])
      (fun l m b => by unfold plaws_heldTermS_L1; rw [if_neg (by simp)])
      (fun l m b c j x hj hat hg hlt => by
        obtain ⟨h1, h2, h3, h4, h5, h6, h7, h8⟩ := hg
        have w1 : wr.i64 (b + 1) = b + 1 := by have := wr_i64 (x := b + 1) (by omega) (by omega); omega
        have w2 : wr.i64 (b + 1 + 1) = b + 2 := by have := wr_i64 (x := b + 1 + 1) (by omega) (by omega); omega
        have w3 : wr.i64 (b + 2 + 1) = b + 3 := by have := wr_i64 (x := b + 2 + 1) (by omega) (by omega); omega
        rw [plaws_heldTermS_L1, if_pos (by simpa using hlt), hat]
        simp only [Option.bind_some, w1, w2, w3]
        rw [if_neg (by simp [h4]), h5]
        simp only [Option.bind_some]
        rw [if_neg (by simp [sEq_refl]), if_neg (by simp [h6]), h8]
        simp only [Option.bind_some]
        rw [if_neg (by simp; omega), cast_succ hj])
      (k := k) (by omega) l (fun x hx => by have := nsum_mem (n := nT) hx; omega) b h1 h2
    obtain ⟨l', c, e1, e2, e3, e4⟩ := key
    refine ⟨l', c, ?_, ?_, e3, e4⟩
    · unfold plaws_markTermS; rw [e1]; rfl
    · unfold plaws_heldTermS; rw [e2]; rfl
theorem markTermS {k : Nat} {l : List GTerm} (hw : maxLen + 2 * nsum nT l + 2 < k) (b : Int) (h1 : 1 ≤ b) (h2 : b + 16 * (nsum nT l : Int) ≤ Huge) :
    ∃ l' c, plaws_markTermS k l b = some (l', c) ∧ plaws_heldTermS k l' b = some c ∧ b ≤ c ∧ c ≤ b + 16 * (nsum nT l : Int) := markTermS1 k l (by omega) b h1 h2
theorem plaws_toTermS_dd : @plaws_toTermS_d = @plaws_toTermS := by kernel_rfl

theorem plaws_toTerm_dd : @plaws_toTerm_d = @plaws_toTerm := by kernel_rfl

def nClause (x : GClause) : Nat := nT x.gHead + nT x.gBody

theorem szClause {k : Nat} {x : GClause} (hw : maxLen + 2 * (nClause x) + 2 < k) (hx : x.ok) (b : Int) (h0 : 0 ≤ b) (h1 : b ≤ Small) : ∃ r, plaws_szClause k x b = some r ∧ -1 ≤ r ∧ (0 ≤ r → r + (nClause x : Int) ≤ b) := by
  unfold nClause at *
  unfold plaws_szClause
  have hS : Small = 1048576 := rfl
  obtain ⟨r1, e1, l1, u1⟩ := szTerm (k := k) (x := x.gHead) (by omega) hx.1 b h0 (by omega)
  rw [e1]
  simp only [Option.bind_some]
  by_cases c1 : r1 < 0
  · rw [if_pos (by simpa using c1)]; exact ⟨_, rfl, by omega, by omega⟩
  rw [if_neg (by simpa using c1)]
  obtain ⟨r2, e2, l2, u2⟩ := szTerm (k := k) (x := x.gBody) (by omega) hx.2.1 r1 (by omega) (by omega)
  rw [e2]
  simp only [Option.bind_some]
  by_cases c2 : r2 < 0
  · rw [if_pos (by simpa using c2)]; exact ⟨_, rfl, by omega, by omega⟩
  rw [if_neg (by simpa using c2)]
  have hs3 : x.gFile.size ≤ 9223372036854775807 := by have := hx.2.2; unfold okFs at this; rw [maxLen_eq] at this; exact this
  have hr3 : wr.i64 (r2 - (x.gFile.size : Int)) = (r2 - (x.gFile.size : Int)) := wr_i64 (by omega) (by omega)
  rw [hr3]
  by_cases c3 : (r2 - (x.gFile.size : Int)) < 0
  · rw [if_pos (by simpa using c3)]; exact ⟨_, rfl, by omega, by omega⟩
  rw [if_neg (by simpa using c3)]
  exact ⟨_, rfl, by omega, fun h => by omega⟩

theorem toClause {k : Nat} {x : GClause} (hw : maxLen + 2 * (nClause x) + 2 < k) (hx : nClause x ≤ 1048576) : plaws_toClause k x = some x := by
  unfold nClause at *
  unfold plaws_toClause
  rw [toTerm (k := k) (x := x.gHead) (by omega) (by omega)]
  simp only [Option.bind_some]
  rw [toTerm (k := k) (x := x.gBody) (by omega) (by omega)]
  simp only [Option.bind_some]

theorem plaws_toClause_dd : @plaws_toClause_d = @plaws_toClause := by kernel_rfl

theorem eqClause {k : Nat} {x : GClause} (hw : maxLen + 2 * (nClause x) + 2 < k) (hx : nClause x ≤ Huge) : plaws_eqClause k x x = some true := by
  unfold nClause at *
  unfold plaws_eqClause
  rw [eqTerm (k := k) (x := x.gHead) (by omega) (by omega)]
  rw [eqTerm (k := k) (x := x.gBody) (by omega) (by omega)]
  simp [sEq_refl]

theorem szClauseS {k : Nat} {l : List GClause} (hw : maxLen + 2 * (nsum nClause l) + 2 < k) (hl : okL (GClause.ok) l) (b : Int) (h0 : 0 ≤ b) (h1 : b ≤ Small) : ∃ r, plaws_szClauseS k l b = some r ∧ -1 ≤ r ∧ (0 ≤ r → r + (nsum nClause l : Int) ≤ b) := by
  exact sz2 (f := plaws_szClause k) (L := plaws_szClauseS_L1 k l) hl.1 (fun x hx b h0 h1 => by have := nsum_mem (n := nClause) hx; exact szClause (by omega) (hl.2 x hx) b h0 h1) (fun m b i => rfl) (by omega) b h0 h1

theorem toClauseS {k : Nat} {l : List GClause} (hw : maxLen + 2 * (nsum nClause l) + 2 < k) (hl : nsum nClause l ≤ 1048576) : plaws_toClauseS k l = some l := by
  have := nsum_len nClause l
  have h := to2 (f := plaws_toClause k) (L := plaws_toClauseS_L1 k l) (by omega) (fun x hx => by have := nsum_mem (n := nClause) hx; exact toClause (by omega) (by omega)) (fun m i o => rfl) (k := k) (by omega) (GClause.mk (GTerm.mk 0 (bs []) 0 []) (GTerm.mk 0 (bs []) 0 []) (bs []))
  unfold plaws_toClauseS
  rw [if_pos h.1, h.2]; rfl

theorem plaws_toClauseS_dd : @plaws_toClauseS_d = @plaws_toClauseS := by kernel_rfl

theorem eqClauseS {k : Nat} {l : List GClause} (hw : maxLen + 2 * (nsum nClause l) + 2 < k) (hl : nsum nClause l ≤ Huge) : plaws_eqClauseS k l l = some true := by
  have := nsum_len nClause l
  exact eq2 (f := plaws_eqClause k) (L := plaws_eqClauseS_L1 k l l) (by omega) (fun x hx => by have := nsum_mem (n := nClause) hx; exact eqClause (by omega) (by omega)) (fun m i => rfl) (k := k) (by omega)

theorem markClauseS {k : Nat} {l : List GClause} (hw : maxLen + 2 * (nsum nClause l) + 2 < k) (b : Int) (h1 : 1 ≤ b) (h2 : b + 16 * (nsum nClause l : Int) ≤ Huge) :
    ∃ l' c, plaws_markClauseS k l b = some (l', c) ∧ plaws_heldClauseS k l' b = some c ∧ b ≤ c ∧ c ≤ b + 16 * (nsum nClause l : Int) := by
  have hm : maxLen = 9223372036854775807 := maxLen_eq
  have hH : Huge = 1152921504606846976 := rfl
  have h3 : (if (3 : Int) ≠ 0 then True else False) = True := by decide
  have hlen := nsum_len nClause l
  have key := mark2 (n := nClause) (ok := fun x => maxLen + 2 * (nClause x) + 2 < k)
    (good := fun b x c => ∃ c0 c1 : Int, 1 ≤ b ∧ c ≤ Huge ∧ c = (c1 + 1) ∧ x.gHead.gKind = b ∧ plaws_markText k (b + 1) = some x.gHead.gName ∧ x.gHead.gNum = (b + 2) ∧ plaws_heldTermS k x.gHead.gKids (b + 3) = some c0 ∧ (b + 3) ≤ c0 ∧ x.gBody.gKind = c0 ∧ plaws_markText k (c0 + 1) = some x.gBody.gName ∧ x.gBody.gNum = (c0 + 2) ∧ plaws_heldTermS k x.gBody.gKids (c0 + 3) = some c1 ∧ (c0 + 3) ≤ c1 ∧ plaws_markText k c1 = some x.gFile)
    (L := plaws_markClauseS_L1 k) (H := plaws_heldClauseS_L1 k)
    (fun m b l => by unfold plaws_markClauseS_L1; rw [if_neg (by simp)])
    (fun m b j l x hx hj hat h1 h2 => by
      try unfold nClause at *
      have hg0 := nT_kids x.gHead
      have hg1 := nT_kids x.gBody
      obtain ⟨s1, t1⟩ := markText (k := k) (by omega) (b + 1) (by omega) (by omega)
      obtain ⟨y0, c0, e0, f0, l0, u0⟩ := markTermS (k := k) (l := x.gHead.gKids) (by omega) (b + 3) (by omega) (by omega)
      obtain ⟨s2, t2⟩ := markText (k := k) (by omega) (c0 + 1) (by omega) (by omega)
      obtain ⟨y1, c1, e1, f1, l1, u1⟩ := markTermS (k := k) (l := x.gBody.gKids) (by omega) (c0 + 3) (by omega) (by omega)
      obtain ⟨s3, t3⟩ := markText (k := k) (by omega) c1 (by omega) (by omega)
      refine ⟨(GClause.mk (GTerm.mk b s1 (b + 2) y0) (GTerm.mk c0 s2 (c0 + 2) y1) s3), (c1 + 1), ⟨c0, c1, h1, (by omega), rfl, rfl, t1, rfl, f0, (by omega), rfl, t2, rfl, f1, (by omega), t3⟩, (by omega), (by omega), fun hlt => ?_⟩
      have w0 : wr.i64 (b + 1) = b + 1 := by have := wr_i64 (x := b + 1) (by omega) (by omega); omega
      have w1 : wr.i64 (b + 1 + 1) = b + 2 := by have := wr_i64 (x := b + 1 + 1) (by omega) (by omega); omega
      have w2 : wr.i64 (b + 2 + 1) = b + 3 := by have := wr_i64 (x := b + 2 + 1) (by omega) (by omega); omega
      have w3 : wr.i64 (c0 + 1) = c0 + 1 := by have := wr_i64 (x := c0 + 1) (by omega) (by omega); omega
      have w4 : wr.i64 (c0 + 1 + 1) = c0 + 2 := by have := wr_i64 (x := c0 + 1 + 1) (by omega) (by omega); omega
      have w5 : wr.i64 (c0 + 2 + 1) = c0 + 3 := by have := wr_i64 (x := c0 + 2 + 1) (by omega) (by omega); omega
      have w6 : wr.i64 (c1 + 1) = c1 + 1 := by have := wr_i64 (x := c1 + 1) (by omega) (by omega); omega
      have hat' : (at' l (j : Int)).isSome = true := by rw [hat]; rfl
      rw [plaws_markClauseS_L1, if_pos (by simpa using hlt)]
      simp only [hat, hat', Option.isSome_some, Option.bind_some, w0, w1, w2, w3, w4, w5, w6, t1, e0, t2, e1, t3, at_set, at_set_some, cast_succ hj, List.set_set, Int.toNat_natCast, if3, mk_gKids, mk_gKind, mk_gName, mk_gNum]
)
    (fun l m b => by unfold plaws_heldClauseS_L1; rw [if_neg (by simp)])
    (fun l m b c j x hj hat hg hlt => by
      obtain ⟨c0, c1, g1, g2, g3, k0, k1, k2, k3, m3, k4, k5, k6, k7, m7, k8⟩ := hg
      have w0 : wr.i64 (b + 1) = b + 1 := by have := wr_i64 (x := b + 1) (by omega) (by omega); omega
      have w1 : wr.i64 (b + 1 + 1) = b + 2 := by have := wr_i64 (x := b + 1 + 1) (by omega) (by omega); omega
      have w2 : wr.i64 (b + 2 + 1) = b + 3 := by have := wr_i64 (x := b + 2 + 1) (by omega) (by omega); omega
      have w3 : wr.i64 (c0 + 1) = c0 + 1 := by have := wr_i64 (x := c0 + 1) (by omega) (by omega); omega
      have w4 : wr.i64 (c0 + 1 + 1) = c0 + 2 := by have := wr_i64 (x := c0 + 1 + 1) (by omega) (by omega); omega
      have w5 : wr.i64 (c0 + 2 + 1) = c0 + 3 := by have := wr_i64 (x := c0 + 2 + 1) (by omega) (by omega); omega
      have w6 : wr.i64 (c1 + 1) = c1 + 1 := by have := wr_i64 (x := c1 + 1) (by omega) (by omega); omega
      have hc : ∀ c : Int, 1 ≤ c → (decide (c < 0)) = false := fun c h => by simpa using (by omega : 0 ≤ c)
      rw [plaws_heldClauseS_L1, if_pos (by simpa using hlt)]
      simp only [hat, Option.bind_some, w0, w1, w2, w3, w4, w5, w6, k0, k1, k2, k3, k4, k5, k6, k7, k8, bne_self_eq_false, beq_self_eq_true, sEq_refl, Bool.not_true, Bool.false_eq_true, if_false, cast_succ hj, if3, g3, hc c0 (by omega), hc c1 (by omega)])
    (k := k) (by omega) l (fun x hx => by have := nsum_mem (n := nClause) hx; omega) b h1 h2
  obtain ⟨l', c, e1, e2, e3, e4⟩ := key
  refine ⟨l', c, ?_, ?_, e3, e4⟩
  · unfold plaws_markClauseS; rw [e1]; rfl
  · unfold plaws_heldClauseS; rw [e2]; rfl

theorem szStringS {k : Nat} {l : List ByteArray} (hw : maxLen + 2 * (nsum (fun _ => 0) l) + 2 < k) (hl : okL (okFs) l) (b : Int) (h0 : 0 ≤ b) (h1 : b ≤ Small) : ∃ r, plaws_szStringS k l b = some r ∧ -1 ≤ r ∧ (0 ≤ r → r + (nsum (fun _ => 0) l : Int) ≤ b) := by
  exact sz2 (f := fun x b => if (decide ((wr.i64 (b - (x.size : Int))) < 0)) = true then some (-1) else some (wr.i64 (b - (x.size : Int)))) (L := plaws_szStringS_L1 k l) hl.1 (fun x hx b h0 h1 => by
    have hs := hl.2 x hx
    unfold okFs at hs
    rw [maxLen_eq] at hs
    unfold Small at h1
    rw [wr_i64 (by omega) (by omega)]
    split
    · exact ⟨_, rfl, by omega, by omega⟩
    · rename_i h; simp at h; exact ⟨_, rfl, by omega, fun _ => by omega⟩) (fun m b i => by
    rw [plaws_szStringS_L1]
    by_cases c : i < (l.length : Int)
    · rw [if_pos (by simpa using c), if_pos (by simpa using c)]
      cases at' l i with
      | none => rfl
      | some x =>
        by_cases d : wr.i64 (b - (x.size : Int)) < 0
        · simp only [Option.bind_some]
          rw [if_pos (by simpa using d), if_pos (by simpa using d)]; rfl
        · simp only [Option.bind_some]
          rw [if_neg (by simpa using d), if_neg (by simpa using d)]
          simp only [Option.bind_some]
          rw [if_neg (by simpa using d)]
    · rw [if_neg (by simpa using c), if_neg (by simpa using c)]) (k := k) (by omega) b h0 h1

theorem toStringS {k : Nat} {l : List ByteArray} (hw : maxLen + 2 * (nsum (fun _ => 0) l) + 2 < k) (hl : nsum (fun _ => 0) l ≤ 1048576) : plaws_toStringS k l = some l := by
  have := nsum_len (fun _ => 0) l
  have h := to2_flat (L := plaws_toStringS_L1 k l) (by omega) (fun m i o => rfl) (k := k) (by omega) (bs [])
  unfold plaws_toStringS
  rw [if_pos h.1, h.2]; rfl

theorem plaws_toStringS_dd : @plaws_toStringS_d = @plaws_toStringS := by kernel_rfl

theorem eqStringS {k : Nat} {l : List ByteArray} (hw : maxLen + 2 * (nsum (fun _ => 0) l) + 2 < k) (hl : nsum (fun _ => 0) l ≤ Huge) : plaws_eqStringS k l l = some true := by
  have := nsum_len (fun _ => 0) l
  exact eq2_flat (ne := fun x y => !(sEq x y)) (L := plaws_eqStringS_L1 k l l) (by omega) (fun x => by simp [sEq_refl]) (fun m i => rfl) (k := k) (by omega)

theorem markStringS {k : Nat} {l : List ByteArray} (hw : maxLen + 2 * (nsum (fun _ => 0) l) + 2 < k) (b : Int) (h1 : 1 ≤ b) (h2 : b + 16 * (nsum (fun _ => 0) l : Int) ≤ Huge) :
    ∃ l' c, plaws_markStringS k l b = some (l', c) ∧ plaws_heldStringS k l' b = some c ∧ b ≤ c ∧ c ≤ b + 16 * (nsum (fun _ => 0) l : Int) := by
  have hm : maxLen = 9223372036854775807 := maxLen_eq
  have hH : Huge = 1152921504606846976 := rfl
  have h3 : (if (3 : Int) ≠ 0 then True else False) = True := by decide
  have hlen := nsum_len (fun _ => 0) l
  have key := mark2 (n := (fun _ => 0)) (ok := fun x => maxLen + 2 * 0 + 2 < k)
    (good := fun b x c => 1 ≤ b ∧ c ≤ Huge ∧ c = (b + 1) ∧ plaws_markText k b = some x)
    (L := plaws_markStringS_L1 k) (H := plaws_heldStringS_L1 k)
    (fun m b l => by unfold plaws_markStringS_L1; rw [if_neg (by simp)])
    (fun m b j l x hx hj hat h1 h2 => by
      skip
      obtain ⟨s1, t1⟩ := markText (k := k) (by omega) b (by omega) (by omega)
      refine ⟨s1, (b + 1), ⟨h1, (by omega), rfl, t1⟩, (by omega), (by omega), fun hlt => ?_⟩
      have w0 : wr.i64 (b + 1) = b + 1 := by have := wr_i64 (x := b + 1) (by omega) (by omega); omega
      have hat' : (at' l (j : Int)).isSome = true := by rw [hat]; rfl
      rw [plaws_markStringS_L1, if_pos (by simpa using hlt)]
      simp only [hat, hat', Option.isSome_some, Option.bind_some, w0, t1, at_set, at_set_some, cast_succ hj, List.set_set, Int.toNat_natCast, if3])
    (fun l m b => by unfold plaws_heldStringS_L1; rw [if_neg (by simp)])
    (fun l m b c j x hj hat hg hlt => by
      obtain ⟨g1, g2, g3, k0⟩ := hg
      have w0 : wr.i64 (b + 1) = b + 1 := by have := wr_i64 (x := b + 1) (by omega) (by omega); omega
      have hc : ∀ c : Int, 1 ≤ c → (decide (c < 0)) = false := fun c h => by simpa using (by omega : 0 ≤ c)
      rw [plaws_heldStringS_L1, if_pos (by simpa using hlt)]
      simp only [hat, Option.bind_some, w0, k0, bne_self_eq_false, beq_self_eq_true, sEq_refl, Bool.not_true, Bool.false_eq_true, if_false, cast_succ hj, if3, g3])
    (k := k) (by omega) l (fun x hx => by have := nsum_mem (n := (fun _ => 0)) hx; omega) b h1 h2
  obtain ⟨l', c, e1, e2, e3, e4⟩ := key
  refine ⟨l', c, ?_, ?_, e3, e4⟩
  · unfold plaws_markStringS; rw [e1]; rfl
  · unfold plaws_heldStringS; rw [e2]; rfl

def nDb (x : GDb) : Nat := nsum nClause x.gClauses + nsum (fun _ => 0) x.gOpen

theorem szDb {k : Nat} {x : GDb} (hw : maxLen + 2 * (nDb x) + 2 < k) (hx : x.ok) (b : Int) (h0 : 0 ≤ b) (h1 : b ≤ Small) : ∃ r, plaws_szDb k x b = some r ∧ -1 ≤ r ∧ (0 ≤ r → r + (nDb x : Int) ≤ b) := by
  unfold nDb at *
  unfold plaws_szDb
  have hS : Small = 1048576 := rfl
  obtain ⟨r1, e1, l1, u1⟩ := szClauseS (k := k) (l := x.gClauses) (by omega) hx.1 b h0 (by omega)
  rw [e1]
  simp only [Option.bind_some]
  by_cases c1 : r1 < 0
  · rw [if_pos (by simpa using c1)]; exact ⟨_, rfl, by omega, by omega⟩
  rw [if_neg (by simpa using c1)]
  obtain ⟨r2, e2, l2, u2⟩ := szStringS (k := k) (l := x.gOpen) (by omega) hx.2 r1 (by omega) (by omega)
  rw [e2]
  simp only [Option.bind_some]
  by_cases c2 : r2 < 0
  · rw [if_pos (by simpa using c2)]; exact ⟨_, rfl, by omega, by omega⟩
  rw [if_neg (by simpa using c2)]
  exact ⟨_, rfl, by omega, fun h => by omega⟩

theorem toDb {k : Nat} {x : GDb} (hw : maxLen + 2 * (nDb x) + 2 < k) (hx : nDb x ≤ 1048576) : plaws_toDb k x = some x := by
  unfold nDb at *
  unfold plaws_toDb
  rw [toClauseS (k := k) (l := x.gClauses) (by omega) (by omega)]
  simp only [Option.bind_some]
  rw [toStringS (k := k) (l := x.gOpen) (by omega) (by omega)]
  simp only [Option.bind_some]

theorem plaws_toDb_dd : @plaws_toDb_d = @plaws_toDb := by kernel_rfl

theorem eqDb {k : Nat} {x : GDb} (hw : maxLen + 2 * (nDb x) + 2 < k) (hx : nDb x ≤ Huge) : plaws_eqDb k x x = some true := by
  unfold nDb at *
  unfold plaws_eqDb
  rw [eqClauseS (k := k) (l := x.gClauses) (by omega) (by omega)]
  rw [eqStringS (k := k) (l := x.gOpen) (by omega) (by omega)]
  simp [sEq_refl]

theorem markDb {k : Nat} {x : GDb} (hw : maxLen + 2 * (nDb x) + 2 < k) (b : Int) (h1 : 1 ≤ b) (h2 : b + 16 * (nDb x : Int) ≤ Huge) :
    ∃ y c, plaws_markDb k x b = some (y, c) ∧ plaws_heldDb k (GDb.mk y.gClauses y.gOpen) b = some c ∧ plaws_heldDb k y b = some c ∧ b ≤ c ∧ c ≤ b + 16 * (nDb x : Int) := by
  unfold nDb at *
  obtain ⟨y0, c0, e0, f0, l0, u0⟩ := markClauseS (k := k) (l := x.gClauses) (by omega) b (by omega) (by omega)
  obtain ⟨y1, c1, e1, f1, l1, u1⟩ := markStringS (k := k) (l := x.gOpen) (by omega) c0 (by omega) (by omega)
  have hc : ∀ c : Int, 1 ≤ c → (decide (c < 0)) = false := fun c h => by simpa using (by omega : 0 ≤ c)
  refine ⟨GDb.mk y0 y1, c1, ?_, ?_, ?_, (by omega), (by omega)⟩
  · unfold plaws_markDb; simp only [e0, e1, Option.bind_some, mk_gKids]
  · unfold plaws_heldDb; simp only [f0, f1, Option.bind_some, hc c0 (by omega), hc c1 (by omega), Bool.false_eq_true, if_false, mk_gKids]
  · unfold plaws_heldDb; simp only [f0, f1, Option.bind_some, hc c0 (by omega), hc c1 (by omega), Bool.false_eq_true, if_false, mk_gKids]
theorem l34Terms_L1 {k : Nat} {f : GTerm → Option GTerm} {g : List GTerm → Option (List GTerm)} {l : List GTerm} (hl : l.length ≤ 1048576) (hf : ∀ x ∈ l, f x = some x) :
    ∀ (m j : Nat), j ≤ l.length → l.length - j < m → pspec_l34Terms_L1 k f g l m (l.take j) (j : Int) = some (.done l)
  | 0, j, h1, h2 => by omega
  | m + 1, j, h1, h2 => by
    unfold pspec_l34Terms_L1
    have hm : l.length ≤ maxLen := by rw [maxLen_eq]; omega
    by_cases hlt : j < l.length
    · rw [if_pos (by simpa using hlt), at_lt hlt]
      simp only [Option.bind_some, hf _ (List.getElem_mem hlt)]
      rw [if_pos (by simp; omega), wr_succ hlt hm, ← List.take_succ_eq_append_getElem hlt]
      exact l34Terms_L1 hl hf m (j + 1) (by omega) (by omega)
    · rw [if_neg (by simpa using hlt), List.take_of_length_le (by omega)]
theorem l34Both : ∀ k : Nat, (∀ l, maxLen + 2 * nsum nT l + 1 < k → nsum nT l ≤ 16777216 → l.length ≤ 1048576 → (∀ x ∈ l, nT x ≤ 1048576) → pspec_l34Terms k l = some l) ∧ (∀ x, maxLen + 2 * nT x + 2 < k → nT x ≤ 1048576 → pspec_l34Term k x = some x)
  | 0 => ⟨fun l h => by omega, fun x h => by omega⟩
  | k + 1 => by
    obtain ⟨ih1, ih2⟩ := l34Both k
    refine ⟨fun l hw hl h3 h4 => ?_, fun x hw hx => ?_⟩
    · have := nsum_len nT l
      unfold pspec_l34Terms
      have e := l34Terms_L1 (k := k) (f := pspec_l34Term k) (g := pspec_l34Terms k) (l := l) (by omega) (fun x hx => by have := nsum_mem (n := nT) hx; exact ih2 x (by omega) (h4 x hx)) k 0 (by omega) (by omega)
      rw [show ((0 : Nat) : Int) = 0 from rfl, List.take_zero] at e
      rw [e]; rfl
    · have hk := nT_kids x
      have := nsum_len nT x.gKids
      unfold pspec_l34Term
      rw [ih1 x.gKids (by omega) (by omega) (by omega) (fun y hy => by have := nsum_mem (n := nT) hy; omega)]
      cases x; rfl
theorem l34Term {k : Nat} {x : GTerm} (hw : maxLen + 2 * nT x + 2 < k) (hx : nT x ≤ 1048576) : pspec_l34Term k x = some x := (l34Both k).2 x hw hx
theorem l34Terms {k : Nat} {l : List GTerm} (hw : maxLen + 2 * nsum nT l + 2 < k) (hx : nsum nT l ≤ 1048576) : pspec_l34Terms k l = some l := by
  have := nsum_len nT l
  exact (l34Both k).1 l (by omega) (by omega) (by omega) (fun x hx => by have := nsum_mem (n := nT) hx; omega)
theorem renamed_L2 {k : Nat} {f : GTerm → Option GTerm} {x : GTerm} {a c : Int} {b : ByteArray} (hl : x.gKids.length ≤ 1048576) (hf : ∀ y ∈ x.gKids, f y = some y) :
    ∀ (m j : Nat), j ≤ x.gKids.length → x.gKids.length - j < m → pimpl_renamed_on1_pimpl_copyTerm_1_L2 k f x m (j : Int) (.mk a b c (x.gKids.take j)) = some (.done (.mk a b c x.gKids))
  | 0, j, h1, h2 => by omega
  | m + 1, j, h1, h2 => by
    unfold pimpl_renamed_on1_pimpl_copyTerm_1_L2
    have hm : x.gKids.length ≤ maxLen := by rw [maxLen_eq]; omega
    by_cases hlt : j < x.gKids.length
    · rw [if_pos (by simpa using hlt), at_lt hlt]
      simp only [Option.bind_some, hf _ (List.getElem_mem hlt)]
      rw [show (GTerm.mk a b c (x.gKids.take j)).gKids = x.gKids.take j from rfl, show (GTerm.mk a b c (x.gKids.take j)).gKind = a from rfl, show (GTerm.mk a b c (x.gKids.take j)).gName = b from rfl, show (GTerm.mk a b c (x.gKids.take j)).gNum = c from rfl]
      rw [if_pos (by simp; omega), wr_succ hlt hm, ← List.take_succ_eq_append_getElem hlt]
      exact renamed_L2 hl hf m (j + 1) (by omega) (by omega)
    · rw [if_neg (by simpa using hlt), List.take_of_length_le (by omega)]
theorem renamed : ∀ (k : Nat) (x : GTerm), maxLen + 2 * nT x + 2 < k → nT x ≤ 1048576 → pimpl_renamed_on1_pimpl_copyTerm_1 k x = some x
  | 0, x, h => by omega
  | k + 1, x, hw => by
    intro hx
    have hk := nT_kids x
    have := nsum_len nT x.gKids
    have e := renamed_L2 (k := k) (f := pimpl_renamed_on1_pimpl_copyTerm_1 k) (x := x) (a := x.gKind) (b := x.gName) (c := x.gNum) (by omega) (fun y hy => by have := nsum_mem (n := nT) hy; exact renamed k y (by omega) (by omega)) k 0 (by omega) (by omega)
    rw [show ((0 : Nat) : Int) = 0 from rfl, List.take_zero] at e
    have hx : GTerm.mk x.gKind x.gName x.gNum x.gKids = x := by cases x; rfl
    rw [hx] at e
    have e2 : pimpl_renamed_on1_pimpl_copyTerm_1_J1 k (pimpl_renamed_on1_pimpl_copyTerm_1 k) x (GTerm.mk x.gKind x.gName x.gNum []) = some x := by
      unfold pimpl_renamed_on1_pimpl_copyTerm_1_J1; rw [e]; rfl
    unfold pimpl_renamed_on1_pimpl_copyTerm_1
    simp only [pimpl_copyTerm_1, Option.bind_some, e2]
    split <;> rfl
theorem copyTerm {k : Nat} {x : GTerm} (hw : maxLen + 2 * nT x + 2 < k) (hx : nT x ≤ 1048576) : pimpl_copyTerm k x = some x := by
  unfold pimpl_copyTerm; rw [renamed k x hw hx]; rfl
theorem l34Clause {k : Nat} {x : GClause} (hw : maxLen + 2 * nClause x + 2 < k) (hx : nClause x ≤ 1048576) : pspec_l34Clause k x = some x := by
  unfold nClause at *
  unfold pspec_l34Clause
  rw [l34Term (k := k) (x := x.gHead) (by omega) (by omega), l34Term (k := k) (x := x.gBody) (by omega) (by omega)]
  rfl
theorem l34Clauses_L1 {k : Nat} {l : List GClause} (hl : l.length ≤ 1048576) (hf : ∀ x ∈ l, pspec_l34Clause k x = some x) :
    ∀ (m j : Nat), j ≤ l.length → l.length - j < m → pspec_l34Clauses_L1 k l m (l.take j) (j : Int) = some (.done l)
  | 0, j, h1, h2 => by omega
  | m + 1, j, h1, h2 => by
    unfold pspec_l34Clauses_L1
    have hm : l.length ≤ maxLen := by rw [maxLen_eq]; omega
    by_cases hlt : j < l.length
    · rw [if_pos (by simpa using hlt), at_lt hlt]
      simp only [Option.bind_some, hf _ (List.getElem_mem hlt)]
      rw [if_pos (by simp; omega), wr_succ hlt hm, ← List.take_succ_eq_append_getElem hlt]
      exact l34Clauses_L1 hl hf m (j + 1) (by omega) (by omega)
    · rw [if_neg (by simpa using hlt), List.take_of_length_le (by omega)]
theorem l34Clauses {k : Nat} {l : List GClause} (hw : maxLen + 2 * nsum nClause l + 2 < k) (hx : nsum nClause l ≤ 1048576) : pspec_l34Clauses k l = some l := by
  have := nsum_len nClause l
  unfold pspec_l34Clauses
  have e := l34Clauses_L1 (k := k) (l := l) (by omega) (fun x hx => by have := nsum_mem (n := nClause) hx; exact l34Clause (by omega) (by omega)) k 0 (by omega) (by omega)
  rw [show ((0 : Nat) : Int) = 0 from rfl, List.take_zero] at e
  rw [e]; rfl
theorem l34Strings {k : Nat} {l : List ByteArray} (hx : l.length ≤ 1048576) : pspec_l34Strings k l = some l := by
  unfold pspec_l34Strings
  rw [if_pos (by simp; omega)]
theorem copyClause {k : Nat} {x : GClause} (hw : maxLen + 2 * nClause x + 2 < k) (hx : nClause x ≤ 1048576) : pimpl_copyClause k x = some x := by
  unfold nClause at *
  unfold pimpl_copyClause
  rw [copyTerm (k := k) (x := x.gHead) (by omega) (by omega), copyTerm (k := k) (x := x.gBody) (by omega) (by omega)]
  rfl
theorem copyClauses_L1 {k : Nat} {l : List GClause} (hl : l.length ≤ 1048576) (hf : ∀ x ∈ l, pimpl_copyClause k x = some x) :
    ∀ (m j : Nat), j ≤ l.length → l.length - j < m → pimpl_copyClauses_L1 k l m (l.take j) (j : Int) = some (.done l)
  | 0, j, h1, h2 => by omega
  | m + 1, j, h1, h2 => by
    unfold pimpl_copyClauses_L1
    have hm : l.length ≤ maxLen := by rw [maxLen_eq]; omega
    by_cases hlt : j < l.length
    · rw [if_pos (by simpa using hlt), at_lt hlt]
      simp only [Option.bind_some, hf _ (List.getElem_mem hlt)]
      rw [if_pos (by simp; omega), wr_succ hlt hm, ← List.take_succ_eq_append_getElem hlt]
      exact copyClauses_L1 hl hf m (j + 1) (by omega) (by omega)
    · rw [if_neg (by simpa using hlt), List.take_of_length_le (by omega)]
theorem copyClauses {k : Nat} {l : List GClause} (hw : maxLen + 2 * nsum nClause l + 2 < k) (hx : nsum nClause l ≤ 1048576) : pimpl_copyClauses k l = some l := by
  have := nsum_len nClause l
  unfold pimpl_copyClauses
  have e := copyClauses_L1 (k := k) (l := l) (by omega) (fun x hx => by have := nsum_mem (n := nClause) hx; exact copyClause (by omega) (by omega)) k 0 (by omega) (by omega)
  rw [show ((0 : Nat) : Int) = 0 from rfl, List.take_zero] at e
  rw [e]; rfl
/-- The clauses that are told by other files. -/
def K (g : ByteArray) (l : List GClause) : List GClause := l.filter fun x => !(sEq x.gFile g)
theorem K_n (g : ByteArray) : ∀ l : List GClause, nsum nClause (K g l) ≤ nsum nClause l
  | [] => by simp [K, nsum]
  | x :: l => by
    have h := K_n g l
    unfold K at *
    rw [List.filter_cons]
    split
    · simp only [nsum]; omega
    · simp only [nsum]; omega
theorem K_drop {g : ByteArray} {l : List GClause} {j : Nat} (h : j < l.length) : K g (l.drop j) = if (!(sEq l[j].gFile g)) = true then l[j] :: K g (l.drop (j + 1)) else K g (l.drop (j + 1)) := by
  rw [List.drop_eq_getElem_cons h, K, List.filter_cons]
  rfl
theorem spec_L1 {k : Nat} {x : GDb} {g : ByteArray} (hl : x.gClauses.length ≤ 1048576) : ∀ (m j : Nat) (c : List GClause) (o : List ByteArray), j ≤ x.gClauses.length → x.gClauses.length - j < m → c.length ≤ j →
    pspec_l17WipedRaw_L1 k x g m (j : Int) (.mk c o) = some (.done (.mk (c ++ K g (x.gClauses.drop j)) o))
  | 0, j, c, o, h1, h2, h3 => by omega
  | m + 1, j, c, o, h1, h2, h3 => by
    have hm : x.gClauses.length ≤ maxLen := by rw [maxLen_eq]; omega
    unfold pspec_l17WipedRaw_L1
    by_cases hlt : j < x.gClauses.length
    · rw [if_pos (by simpa using hlt), at_lt hlt]
      simp only [Option.bind_some]
      rw [K_drop hlt, wr_succ hlt hm]
      by_cases hd : (!(sEq x.gClauses[j].gFile g)) = true
      · rw [if_pos hd, if_pos hd, if_pos (by simp; omega)]
        have := spec_L1 (k := k) (g := g) hl m (j + 1) (c ++ [x.gClauses[j]]) o (by omega) (by omega) (by simp; omega)
        simpa using this
      · rw [if_neg hd, if_neg hd]
        exact spec_L1 (k := k) (g := g) hl m (j + 1) c o (by omega) (by omega) (by omega)
    · rw [if_neg (by simpa using hlt), List.drop_of_length_le (by omega)]
      simp [K]
theorem nflat {α : Type} : ∀ l : List α, nsum (fun _ => 0) l = l.length
  | [] => rfl
  | x :: l => by simp only [nsum, nflat l, List.length_cons]; omega
theorem copyDb_same : @pimpl_copyDb_d = @pimpl_copyDb := by kernel_rfl
theorem same {k : Nat} {x : GDb} {g : ByteArray} (hn : nDb x ≤ 1048576) (hk : maxLen + 1099511627776 < k) :
    ∃ p, pspec_Wiped k x g = some p ∧ pimpl_Wiped_d k x g = some p ∧ nDb p ≤ 1048576 := by
  have hm : maxLen = 9223372036854775807 := maxLen_eq
  unfold nDb at hn
  have no := nflat x.gOpen
  have hlen := nsum_len nClause x.gClauses
  have hR := K_n g x.gClauses
  have e1 := spec_L1 (k := k) (x := x) (g := g) (by omega) k 0 [] x.gOpen (by omega) (by omega) (by simp)
  rw [show ((0 : Nat) : Int) = 0 from rfl, List.drop_zero, List.nil_append] at e1
  have c1 := l34Clauses (k := k) (l := K g x.gClauses) (by omega) (by omega)
  have c2 := l34Strings (k := k) (l := x.gOpen) (by omega)
  have c3 := copyClauses (k := k) (l := x.gClauses) (by omega) (by omega)
  have s1 : pspec_Wiped k x g = some ⟨K g x.gClauses, x.gOpen⟩ := by
    unfold pspec_Wiped pspec_l17WipedRaw pspec_l34Db
    rw [if_pos (by simp; omega), e1]
    simp only [Option.bind_some, c1, c2]
  have s2 : pimpl_Wiped_d k x g = some ⟨K g x.gClauses, x.gOpen⟩ := by
    unfold pimpl_Wiped_d
    rw [copyDb_same]
    unfold pimpl_copyDb
    rw [c3]
    simp only [Option.bind_some]
    rw [if_pos (by simp; omega)]
    simp only [Option.bind_some]
    have e : pslices_DeleteFunc___impl_Clause_impl_Clause__on1_pimpl_Wiped_1_d k x.gClauses g = some (K g x.gClauses) := by
      unfold pslices_DeleteFunc___impl_Clause_impl_Clause__on1_pimpl_Wiped_1_d pimpl_Wiped_1
      rw [if_pos (by simp)]
      rfl
    rw [e]
    rfl
  exact ⟨_, s1, s2, by unfold nDb; simp only []; omega⟩
theorem law (x : GDb) (g : ByteArray) (hx : x.ok) (hg0 : okFs g) : ∃ k, plaws_FnExactWiped k x g = some true := by
  obtain ⟨k, hk⟩ : ∃ k, maxLen + 4 * nDb x + 1099511627776 < k := ⟨_, Nat.lt_succ_self _⟩
  refine ⟨k, ?_⟩
  have hm : maxLen = 9223372036854775807 := maxLen_eq
  have hH : Huge = 1152921504606846976 := rfl
  have hw : maxLen + 2 * nDb x + 2 < k := by omega
  unfold plaws_FnExactWiped
  by_cases hg : (decide ((g.size : Int) > 1048576)) = true
  · rw [if_pos hg]
  rw [if_neg hg]
  obtain ⟨r, e1, h2, h3⟩ := szDb (k := k) hw hx 1048576 (by omega) (by unfold Small; omega)
  rw [e1]
  simp only [Option.bind_some]
  by_cases hr : r < 0
  · rw [if_pos (by simpa using hr)]
  rw [if_neg (by simpa using hr)]
  have hn : nDb x ≤ 1048576 := by omega
  have t0 := toDb (k := k) hw hn
  have t1 : plaws_toDb_d k x = some x := by rw [plaws_toDb_dd]; exact t0
  obtain ⟨p, e2, e3, np⟩ := same (k := k) (x := x) (g := g) hn (by omega)
  obtain ⟨u, c, a1, a4, a5⟩ := markDb (k := k) (x := x) hw 1 (by omega) (by omega)
  obtain ⟨z, d, b1, b2, b3, b4, b5⟩ := markDb (k := k) (x := p) (by omega) 1 (by omega) (by omega)
  have q1 := eqDb (k := k) (x := p) (by omega) (by omega)
  have q2 := eqDb (k := k) (x := x) hw (by omega)
  have hc : ∀ c : Int, 1 ≤ c → (decide (c < 0)) = false := fun c h => by simpa using (by omega : 0 ≤ c)
  simp only [t0, t1, e2, e3, q1, q2, a1, b1, b2, b3, hc c (by omega), hc d b4, Option.bind_some, Bool.not_true, Bool.false_eq_true, if_false, bne_self_eq_false, beq_self_eq_true]
end FnExactWiped
end Go.Proofs.Ytkmifafdenblcaa

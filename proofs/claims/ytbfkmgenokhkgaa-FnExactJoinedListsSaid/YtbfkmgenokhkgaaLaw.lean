/- The law, plainly. -/
import Derived.Test.YtbfkmgenokhkgaaFn
set_option linter.unusedVariables false
set_option linter.unusedSimpArgs false
namespace Go.Proofs.Ytbfkmgenokhkgaa
open Go.RowKit Go.Bv
namespace FnExactJoinedLists
/-- Room for the marks. -/
theorem markText_loop (k : Nat) : ∀ (j m : Nat) (b : Int) (e : ByteArray), j < m → 0 ≤ b → b < 2 ^ j → j ≤ 61 → e.size + j ≤ 1000 →
    ∃ s, plaws_markText_L1 k m b e = some (.done s) ∧ s.size ≤ 1000
  | j, 0, b, e, h1, _, _, _, _ => by omega
  | 0, m + 1, b, e, h1, h2, h3, h4, h5 => by
    unfold plaws_markText_L1
    rw [if_neg (by simp at h3 ⊢; omega)]
    exact ⟨e, rfl, by omega⟩
  | j + 1, m + 1, b, e, h1, h2, h3, h4, h5 => by
    unfold plaws_markText_L1
    by_cases hb : b > 0
    · have hp : (2 : Int) ^ (j + 1) = 2 * 2 ^ j := by rw [Int.pow_succ]; omega
      have hj : (2 : Int) ^ j ≤ 2 ^ 61 := by
        have : (2 : Nat) ^ j ≤ 2 ^ 61 := Nat.pow_le_pow_right (by omega) (by omega)
        exact_mod_cast this
      have hq : Int.tdiv b 10 = b / 10 := Int.tdiv_eq_ediv_of_nonneg h2
      have hs : (strOfNums [wr.u8 (wr.i64 (48 + (Int.tmod b 10)))]).size = 1 := rfl
      rw [if_pos (by simpa using hb), if_pos (by omega), if_pos (by unfold sumOk; rw [hs]; omega), if_pos (by omega), hq, wr_i64 (by omega) (by omega)]
      exact markText_loop k j m (b / 10) _ (by omega) (by omega) (by omega) (by omega) (by rw [ByteArray.size_append, hs]; omega)
    · rw [if_neg (by simpa using hb)]; exact ⟨e, rfl, by omega⟩

theorem markText {k : Nat} (hk : maxLen < k) (b : Int) (h0 : 0 ≤ b) (h1 : b ≤ Huge) : ∃ s, plaws_markText k b = some s := by
  unfold plaws_markText
  by_cases hb : b ≤ 0
  · rw [if_pos (by simpa using hb)]; exact ⟨_, rfl⟩
  · rw [if_neg (by simpa using hb)]
    rw [maxLen_eq] at hk
    have hH : Huge = 1152921504606846976 := rfl
    have hp : (2 : Int) ^ 61 = 2305843009213693952 := by decide
    obtain ⟨s, h2, h3⟩ := markText_loop k 61 k b (bs []) (by omega) h0 (by rw [hp]; omega) (by omega) (by have : (bs []).size = 0 := rfl; omega)
    rw [h2]
    simp only [Option.bind_some]
    rw [if_pos (by unfold sumOk; have : (bs [109]).size = 1 := rfl; omega)]
    exact ⟨_, rfl⟩
mutual
/-- How many terms stand in a term. -/
def nT : GTerm → Nat
  | .mk _ _ _ l => nTs l
def nTs : List GTerm → Nat
  | [] => 0
  | x :: l => 1 + nT x + nTs l
end
theorem nTs_eq : ∀ l : List GTerm, nTs l = nsum nT l
  | [] => by rw [nTs]; rfl
  | x :: l => by rw [nTs, nsum, nTs_eq l]
theorem nT_kids (x : GTerm) : nT x = nsum nT x.gKids := by
  cases x with
  | mk a b c l => rw [nT, nTs_eq]; rfl

theorem ok_kids {x : GTerm} (h : x.ok) : okL GTerm.ok x.gKids := by cases h with | mk a b c l h1 h2 h3 h4 h5 => exact ⟨h4, h5⟩
theorem ok_name {x : GTerm} (h : x.ok) : okFs x.gName := by cases h with | mk a b c l h1 h2 h3 h4 h5 => exact h2
theorem ok_kind {x : GTerm} (h : x.ok) : okI .i64 x.gKind := by cases h with | mk a b c l h1 h2 h3 h4 h5 => exact h1
theorem ok_num {x : GTerm} (h : x.ok) : okI .i64 x.gNum := by cases h with | mk a b c l h1 h2 h3 h4 h5 => exact h3

theorem mk_gKind (a : Int) (b : ByteArray) (c : Int) (l : List GTerm) : (GTerm.mk a b c l).gKind = a := rfl
theorem mk_gName (a : Int) (b : ByteArray) (c : Int) (l : List GTerm) : (GTerm.mk a b c l).gName = b := rfl
theorem mk_gNum (a : Int) (b : ByteArray) (c : Int) (l : List GTerm) : (GTerm.mk a b c l).gNum = c := rfl
theorem mk_gKids (a : Int) (b : ByteArray) (c : Int) (l : List GTerm) : (GTerm.mk a b c l).gKids = l := rfl
theorem szBoth : ∀ N k : Nat,
    (∀ l, maxLen + 2 * nsum nT l + 1 < k → nsum nT l ≤ N → okL GTerm.ok l → ∀ b : Int, 0 ≤ b → b ≤ Small → ∃ r, plaws_szTermS k l b = some r ∧ -1 ≤ r ∧ (0 ≤ r → r + (nsum nT l : Int) ≤ b)) ∧
    (∀ x, maxLen + 2 * nT x + 2 < k → nT x ≤ N → x.ok → ∀ b : Int, 0 ≤ b → b ≤ Small → ∃ r, plaws_szTerm k x b = some r ∧ -1 ≤ r ∧ (0 ≤ r → r + (nT x : Int) ≤ b))
  | N, 0 => ⟨fun l h => by omega, fun x h => by omega⟩
  | N, k + 1 => by
    obtain ⟨ih1, ih2⟩ := szBoth N k
    refine ⟨?_, ?_⟩
    · intro l hw hN hl b h0 h1
      exact sz2 (f := plaws_szTerm k) (L := plaws_szTermS_L1 k (plaws_szTerm k) (plaws_szTermS k) l) hl.1 (fun x hx b h0 h1 => by have := nsum_mem (n := nT) hx; exact ih2 x (by omega) (by omega) (hl.2 x hx) b h0 h1) (fun m b i => rfl) (by omega) b h0 h1
    · intro x hw hN hx b h0 h1
      have hn := ok_name hx
      unfold okFs at hn
      have h1' := h1
      unfold Small at h1'
      rw [maxLen_eq] at hn
      have hk := nT_kids x
      unfold plaws_szTerm
      rw [wr_i64 (by omega) (by omega)]
      split
      · exact ⟨_, rfl, by omega, by omega⟩
      · rename_i h
        simp at h
        obtain ⟨r, h2, h3, h4⟩ := ih1 x.gKids (by omega) (by omega) (ok_kids hx) (b - (x.gName.size : Int)) (by omega) (by unfold Small; omega)
        rw [h2]
        simp only [Option.bind_some]
        split
        · exact ⟨_, rfl, by omega, by omega⟩
        · exact ⟨_, rfl, h3, by omega⟩
theorem szTermS {k : Nat} {l : List GTerm} (hw : maxLen + 2 * nsum nT l + 2 < k) (hl : okL GTerm.ok l) (b : Int) (h0 : 0 ≤ b) (h1 : b ≤ Small) : ∃ r, plaws_szTermS k l b = some r ∧ -1 ≤ r ∧ (0 ≤ r → r + (nsum nT l : Int) ≤ b) :=
  (szBoth (nsum nT l) k).1 l (by omega) (Nat.le_refl _) hl b h0 h1
theorem szTerm {k : Nat} {x : GTerm} (hw : maxLen + 2 * nT x + 2 < k) (hx : x.ok) (b : Int) (h0 : 0 ≤ b) (h1 : b ≤ Small) : ∃ r, plaws_szTerm k x b = some r ∧ -1 ≤ r ∧ (0 ≤ r → r + (nT x : Int) ≤ b) :=
  (szBoth (nT x) k).2 x hw (Nat.le_refl _) hx b h0 h1

theorem toBoth : ∀ k : Nat, (∀ l, maxLen + 2 * nsum nT l + 1 < k → nsum nT l ≤ 1048576 → plaws_toTermS k l = some l) ∧ (∀ x, maxLen + 2 * nT x + 2 < k → nT x ≤ 1048576 → plaws_toTerm k x = some x)
  | 0 => ⟨fun l h => by omega, fun x h => by omega⟩
  | k + 1 => by
    obtain ⟨ih1, ih2⟩ := toBoth k
    refine ⟨?_, ?_⟩
    · intro l hw hl
      have := nsum_len nT l
      have h := to2 (f := plaws_toTerm k) (L := plaws_toTermS_L1 k (plaws_toTerm k) (plaws_toTermS k) l) (by omega) (fun x hx => by have := nsum_mem (n := nT) hx; exact ih2 x (by omega) (by omega)) (fun m i o => rfl) (k := k) (by omega) (GTerm.mk 0 (bs []) 0 [])
      unfold plaws_toTermS
      rw [if_pos h.1, h.2]; rfl
    · intro x hw hx
      have hk := nT_kids x
      unfold plaws_toTerm
      rw [ih1 x.gKids (by omega) (by omega)]
      cases x; rfl
theorem toTermS {k : Nat} {l : List GTerm} (hw : maxLen + 2 * nsum nT l + 2 < k) (hl : nsum nT l ≤ 1048576) : plaws_toTermS k l = some l := (toBoth k).1 l (by omega) hl
theorem toTerm {k : Nat} {x : GTerm} (hw : maxLen + 2 * nT x + 2 < k) (hl : nT x ≤ 1048576) : plaws_toTerm k x = some x := (toBoth k).2 x hw hl

theorem eqBoth : ∀ k : Nat, (∀ l, maxLen + 2 * nsum nT l + 1 < k → nsum nT l ≤ Huge → plaws_eqTermS k l l = some true) ∧ (∀ x, maxLen + 2 * nT x + 2 < k → nT x ≤ Huge → plaws_eqTerm k x x = some true)
  | 0 => ⟨fun l h => by omega, fun x h => by omega⟩
  | k + 1 => by
    obtain ⟨ih1, ih2⟩ := eqBoth k
    refine ⟨?_, ?_⟩
    · intro l hw hl
      have := nsum_len nT l
      exact eq2 (f := plaws_eqTerm k) (L := plaws_eqTermS_L1 k (plaws_eqTerm k) (plaws_eqTermS k) l l) (by omega) (fun x hx => by have := nsum_mem (n := nT) hx; exact ih2 x (by omega) (by omega)) (fun m i => rfl) (by omega)
    · intro x hw hx
      have hk := nT_kids x
      unfold plaws_eqTerm
      rw [ih1 x.gKids (by omega) (by omega)]
      simp [sEq_refl]
theorem eqTermS {k : Nat} {l : List GTerm} (hw : maxLen + 2 * nsum nT l + 2 < k) (hl : nsum nT l ≤ Huge) : plaws_eqTermS k l l = some true := (eqBoth k).1 l (by omega) hl
theorem eqTerm {k : Nat} {x : GTerm} (hw : maxLen + 2 * nT x + 2 < k) (hl : nT x ≤ Huge) : plaws_eqTerm k x x = some true := (eqBoth k).2 x hw hl
theorem markTermS1 : ∀ (k : Nat) (l : List GTerm), maxLen + 2 * nsum nT l + 1 < k → ∀ b : Int, 1 ≤ b → b + 8 * (nsum nT l : Int) ≤ Huge →
    ∃ l' c, plaws_markTermS k l b = some (l', c) ∧ plaws_heldTermS k l' b = some c ∧ b ≤ c ∧ c ≤ b + 8 * (nsum nT l : Int)
  | 0, l, h => by omega
  | k + 1, l, hw => by
    intro b h1 h2
    have hH : Huge = 1152921504606846976 := rfl
    have key := mark2 (n := nT) (ok := fun x => maxLen + 2 * nT x + 1 < k)
      (good := fun b x c => 1 ≤ b ∧ b ≤ c ∧ c ≤ Huge ∧ x.gKind = b ∧ plaws_markText k (b + 1) = some x.gName ∧ x.gNum = b + 2 ∧ b + 3 ≤ Huge ∧ plaws_heldTermS k x.gKids (b + 3) = some c)
      (L := plaws_markTermS_L1 k (plaws_markTermS k)) (H := plaws_heldTermS_L1 k (plaws_heldTermS k))
      (fun m b l => by unfold plaws_markTermS_L1; rw [if_neg (by simp)])
      (fun m b j l x hx hj hat h1 h2 => by
        have hk := nT_kids x
        obtain ⟨s, hs⟩ := markText (k := k) (by omega) (b + 1) (by omega) (by omega)
        obtain ⟨l', c, e1, e2, e3, e4⟩ := markTermS1 k x.gKids (by omega) (b + 3) (by omega) (by omega)
        refine ⟨.mk b s (b + 2) l', c, ⟨h1, by omega, by omega, rfl, hs, rfl, by omega, e2⟩, by omega, by omega, fun hlt => ?_⟩
        have w1 : wr.i64 (b + 1) = b + 1 := by have := wr_i64 (x := b + 1) (by omega) (by omega); omega
        have w2 : wr.i64 (b + 1 + 1) = b + 2 := by have := wr_i64 (x := b + 1 + 1) (by omega) (by omega); omega
        have w3 : wr.i64 (b + 2 + 1) = b + 3 := by have := wr_i64 (x := b + 2 + 1) (by omega) (by omega); omega
        have hset : ∀ (l : List GTerm) (y z : GTerm), at' l (j : Int) = some y → at' (l.set ((j : Int)).toNat z) (j : Int) = some z := fun l y z h => at_is h
        rw [plaws_markTermS_L1, if_pos (by simpa using hlt), hat]
        simp only [Option.bind_some, w1, w2, w3, hs]
        rw [hset _ _ _ hat]
        simp only [Option.bind_some]
        rw [hset _ _ _ (hset _ _ _ hat)]
        simp only [Option.bind_some]
        rw [hset _ _ _ (hset _ _ _ (hset _ _ _ hat))]
        simp only [Option.bind_some, mk_gKids, mk_gKind, mk_gName, mk_gNum]
        simp only [e1, Option.bind_some, cast_succ hj, List.set_set, Int.toNat_natCast])
      (fun l m b => by unfold plaws_heldTermS_L1; rw [if_neg (by simp)])
      (fun l m b c j x hj hat hg hlt => by
        obtain ⟨h1, h2, h3, h4, h5, h6, h7, h8⟩ := hg
        have w1 : wr.i64 (b + 1) = b + 1 := by have := wr_i64 (x := b + 1) (by omega) (by omega); omega
        have w2 : wr.i64 (b + 1 + 1) = b + 2 := by have := wr_i64 (x := b + 1 + 1) (by omega) (by omega); omega
        have w3 : wr.i64 (b + 2 + 1) = b + 3 := by have := wr_i64 (x := b + 2 + 1) (by omega) (by omega); omega
        rw [plaws_heldTermS_L1, if_pos (by simpa using hlt), hat]
        simp only [Option.bind_some, w1, w2, w3]
        rw [if_neg (by simp [h4]), h5]
        simp only [Option.bind_some]
        rw [if_neg (by simp [sEq_refl]), if_neg (by simp [h6]), h8]
        simp only [Option.bind_some]
        rw [if_neg (by simp; omega), cast_succ hj])
      (k := k) (by omega) l (fun x hx => by have := nsum_mem (n := nT) hx; omega) b h1 h2
    obtain ⟨l', c, e1, e2, e3, e4⟩ := key
    refine ⟨l', c, ?_, ?_, e3, e4⟩
    · unfold plaws_markTermS; rw [e1]; rfl
    · unfold plaws_heldTermS; rw [e2]; rfl
theorem markTermS {k : Nat} {l : List GTerm} (hw : maxLen + 2 * nsum nT l + 2 < k) (b : Int) (h1 : 1 ≤ b) (h2 : b + 8 * (nsum nT l : Int) ≤ Huge) :
    ∃ l' c, plaws_markTermS k l b = some (l', c) ∧ plaws_heldTermS k l' b = some c ∧ b ≤ c ∧ c ≤ b + 8 * (nsum nT l : Int) := markTermS1 k l (by omega) b h1 h2
theorem markTerm {k : Nat} {x : GTerm} (hw : maxLen + 2 * nT x + 2 < k) (b : Int) (h1 : 1 ≤ b) (h2 : b + 8 * (nT x : Int) ≤ Huge) :
    ∃ y c, plaws_markTerm k x b = some (y, c) ∧ plaws_heldTerm k (GTerm.mk x.gKind x.gName x.gNum y.gKids) b = some c ∧ plaws_heldTerm k y b = some c ∧ b ≤ c ∧ c ≤ b + 8 * (nT x : Int) := by
  have hk := nT_kids x
  obtain ⟨l', c, e1, e2, e3, e4⟩ := markTermS (k := k) (l := x.gKids) (by omega) b h1 (by omega)
  have hh : plaws_heldTerm k (.mk x.gKind x.gName x.gNum l') b = some c := by
    unfold plaws_heldTerm
    rw [show (GTerm.mk x.gKind x.gName x.gNum l').gKids = l' from rfl, e2]
    simp only [Option.bind_some]
    rw [if_neg (by simp; omega)]
  refine ⟨.mk x.gKind x.gName x.gNum l', c, ?_, hh, hh, e3, by omega⟩
  unfold plaws_markTerm; rw [e1]; rfl
theorem plaws_toTermS_dd : @plaws_toTermS_d = @plaws_toTermS := by kernel_rfl

theorem plaws_toTerm_dd : @plaws_toTerm_d = @plaws_toTerm := by kernel_rfl
/-- Is it within these bounds? -/
def inR (x a b : Int) : Bool := decide (a ≤ x ∧ x ≤ b)
theorem inR_t {x a b : Int} (h : a ≤ x ∧ x ≤ b) : inR x a b = true := decide_eq_true h
theorem inR_f {x a b : Int} (h : ¬ (a ≤ x ∧ x ≤ b)) : inR x a b = false := decide_eq_false h

theorem l01In (k : Nat) (x a b : Int) : pspec_l01In k x a b = some (inR x a b) := by
  unfold pspec_l01In inR
  by_cases h : a ≤ x
  · rw [if_pos (by simpa using h)]; simp [h]
  · rw [if_neg (by simpa using h)]; simp [h]

theorem within (k : Nat) (x a b : Int) : pimpl_within k x a b = some (inR x a b) := by
  unfold pimpl_within inR
  by_cases h : a ≤ x
  · rw [if_pos (by simpa using h)]; simp [h]
  · rw [if_neg (by simpa using h)]; simp [h]
theorem bt_le (s : ByteArray) (i : Int) : 0 ≤ bt s i ∧ bt s i ≤ 255 := by
  unfold bt
  have : ((s[i.toNat]?).getD 0).toNat < 256 := ((s[i.toNat]?).getD 0).toNat_lt
  omega
/-- A byte that a name may have. -/
def gb (s : ByteArray) (i : Nat) : Prop := 33 ≤ bt s (i : Int) ∧ bt s (i : Int) ≤ 126 ∧ bt s (i : Int) ≠ 39 ∧ bt s (i : Int) ≠ 34
instance (s : ByteArray) (i : Nat) : Decidable (gb s i) := by unfold gb; infer_instance
/-- A name. -/
def nmOk (s : ByteArray) : Prop := (∀ i, i < s.size → gb s i) ∧ 1 ≤ s.size ∧ s.size ≤ 20
instance (s : ByteArray) : Decidable (nmOk s) := by unfold nmOk; infer_instance

theorem l03Name_L1 (k : Nat) (s : ByteArray) (hs : s.size ≤ maxLen) : ∀ (m n : Nat), n ≤ s.size → s.size - n < m →
    ∃ o, pspec_l03Name_L1 k s m (n : Int) = some o ∧ (match o with | .ret r => r = false ∧ ∃ i, i < s.size ∧ ¬ gb s i | .done _ => ∀ i, n ≤ i → i < s.size → gb s i)
  | 0, n, h1, h2 => by omega
  | m + 1, n, h1, h2 => by
    unfold pspec_l03Name_L1
    by_cases hlt : n < s.size
    · have hg : 0 ≤ (n : Int) ∧ (n : Int).toNat < s.size := ⟨by omega, by simpa using hlt⟩
      have bad : ∀ b : Prop, (gb s n → ¬ b) → b → ∃ o, (some (Out.ret false) : Option (Out Bool Unit)) = some o ∧ (match o with | .ret r => r = false ∧ ∃ i, i < s.size ∧ ¬ gb s i | .done _ => ∀ i, n ≤ i → i < s.size → gb s i) :=
        fun b h hb => ⟨_, rfl, rfl, n, hlt, fun h' => h h' hb⟩
      rw [if_pos (by simpa using hlt), if_pos hg]
      by_cases c1 : bt s (n : Int) < 33
      · rw [if_pos (by simpa using c1)]; exact bad _ (fun h => by have := h.1; omega) c1
      rw [if_neg (by simpa using c1), if_pos hg]
      by_cases c2 : bt s (n : Int) > 126
      · rw [if_pos (by simpa using c2)]; exact bad _ (fun h => by have := h.2.1; omega) c2
      rw [if_neg (by simpa using c2), if_pos hg]
      by_cases c3 : bt s (n : Int) = 39
      · rw [if_pos (by simpa using c3)]; exact bad _ (fun h => h.2.2.1) c3
      rw [if_neg (by simpa using c3), if_pos hg]
      by_cases c4 : bt s (n : Int) = 34
      · rw [if_pos (by simpa using c4)]; exact bad _ (fun h => h.2.2.2) c4
      rw [if_neg (by simpa using c4), wr_succ hlt hs]
      obtain ⟨o, h3, h4⟩ := l03Name_L1 k s hs m (n + 1) (by omega) (by omega)
      refine ⟨o, h3, ?_⟩
      cases o with
      | ret r => exact h4
      | done u =>
        intro i hi1 hi2
        by_cases e : i = n
        · subst e; exact ⟨by omega, by omega, c3, c4⟩
        · exact h4 i (by omega) hi2
    · rw [if_neg (by simpa using hlt)]
      exact ⟨_, rfl, fun i h3 h4 => by omega⟩

theorem nameOk_L1 (k : Nat) (s : ByteArray) (hs : s.size ≤ maxLen) : ∀ (m n : Nat), n ≤ s.size → s.size - n < m →
    ∃ o, pimpl_nameOk_L1 k s m (n : Int) = some o ∧ (match o with | .ret r => r = false ∧ ∃ i, i < s.size ∧ ¬ gb s i | .done _ => ∀ i, n ≤ i → i < s.size → gb s i)
  | 0, n, h1, h2 => by omega
  | m + 1, n, h1, h2 => by
    unfold pimpl_nameOk_L1
    by_cases hlt : n < s.size
    · have hg : 0 ≤ (n : Int) ∧ (n : Int).toNat < s.size := ⟨by omega, by simpa using hlt⟩
      have hb := bt_le s (n : Int)
      have bad : ∀ b : Prop, (gb s n → ¬ b) → b → ∃ o, (some (Out.ret false) : Option (Out Bool Unit)) = some o ∧ (match o with | .ret r => r = false ∧ ∃ i, i < s.size ∧ ¬ gb s i | .done _ => ∀ i, n ≤ i → i < s.size → gb s i) :=
        fun b h hb => ⟨_, rfl, rfl, n, hlt, fun h' => h h' hb⟩
      rw [if_pos (by simpa using hlt), if_pos hg, within, wr_i64 (by omega) (by omega)]
      simp only [Option.bind_some]
      by_cases c1 : 33 ≤ bt s (n : Int) ∧ bt s (n : Int) ≤ 126
      · rw [inR_t c1, if_neg (by simp), if_pos hg]
        by_cases c3 : bt s (n : Int) = 39
        · rw [if_pos (by simpa using c3)]; exact bad _ (fun h => h.2.2.1) c3
        rw [if_neg (by simpa using c3), if_pos hg]
        by_cases c4 : bt s (n : Int) = 34
        · rw [if_pos (by simpa using c4)]; exact bad _ (fun h => h.2.2.2) c4
        rw [if_neg (by simpa using c4), wr_succ hlt hs]
        obtain ⟨o, h3, h4⟩ := nameOk_L1 k s hs m (n + 1) (by omega) (by omega)
        refine ⟨o, h3, ?_⟩
        cases o with
        | ret r => exact h4
        | done u =>
          intro i hi1 hi2
          by_cases e : i = n
          · subst e; exact ⟨by omega, by omega, c3, c4⟩
          · exact h4 i (by omega) hi2
      · rw [inR_f c1, if_pos (by simp)]
        exact bad _ (fun h => by have := h.1; have := h.2.1; omega) c1
    · rw [if_neg (by simpa using hlt)]
      exact ⟨_, rfl, fun i h3 h4 => by omega⟩

theorem nm_of {s : ByteArray} (h : ∀ i, 0 ≤ i → i < s.size → gb s i) : inR (s.size : Int) 1 20 = decide (nmOk s) := by
  unfold inR
  rw [decide_eq_decide]
  unfold nmOk
  constructor
  · intro h1; exact ⟨fun i hi => h i (by omega) hi, by omega, by omega⟩
  · intro h1; obtain ⟨_, h5, h6⟩ := h1; omega

theorem l03Name {k : Nat} {s : ByteArray} (hs : s.size ≤ maxLen) (hk : maxLen < k) : pspec_l03Name k s = some (decide (nmOk s)) := by
  unfold pspec_l03Name
  obtain ⟨o, h1, h2⟩ := l03Name_L1 k s hs k 0 (by omega) (by omega)
  rw [show ((0 : Nat) : Int) = 0 from rfl] at h1
  rw [h1]
  cases o with
  | ret r =>
    obtain ⟨rfl, i, h3, h4⟩ := h2
    have : ¬ nmOk s := fun h => h4 (h.1 i h3)
    simp [this]
  | done u =>
    simp only [Option.bind_some]
    rw [l01In]
    simp only [Option.bind_some]
    rw [nm_of h2]

theorem nameOk {k : Nat} {s : ByteArray} (hs : s.size ≤ maxLen) (hk : maxLen < k) : pimpl_nameOk k s = some (decide (nmOk s)) := by
  unfold pimpl_nameOk
  obtain ⟨o, h1, h2⟩ := nameOk_L1 k s hs k 0 (by omega) (by omega)
  rw [show ((0 : Nat) : Int) = 0 from rfl] at h1
  rw [h1]
  cases o with
  | ret r =>
    obtain ⟨rfl, i, h3, h4⟩ := h2
    have : ¬ nmOk s := fun h => h4 (h.1 i h3)
    simp [this]
  | done u =>
    simp only [Option.bind_some]
    rw [within]
    simp only [Option.bind_some]
    rw [nm_of h2]

/-- The head of a term is as it should be. -/
def one (x : GTerm) : Bool :=
  if x.gKind = 1 then inR x.gNum 0 99999 && (sEq x.gName (bs []) && ((x.gKids.length : Int) == 0))
  else if x.gKind = 2 then decide (nmOk x.gName) && ((x.gNum == 0) && ((x.gKids.length : Int) == 0))
  else if x.gKind = 3 then inR x.gNum (-999999999) 999999999 && (sEq x.gName (bs []) && ((x.gKids.length : Int) == 0))
  else if x.gKind = 4 then decide (nmOk x.gName) && ((x.gNum == 0) && inR (x.gKids.length : Int) 1 5)
  else false
mutual
/-- A term, at a depth, is as it should be. -/
def gT : Int → GTerm → Bool
  | d, .mk a b c l => decide (d ≤ 40) && (one (.mk a b c l) && gTs (d + 1) l)
def gTs : Int → List GTerm → Bool
  | _, [] => true
  | d, x :: l => gT d x && gTs d l
end
theorem gT_eq (d : Int) (x : GTerm) : gT d x = (decide (d ≤ 40) && (one x && gTs (d + 1) x.gKids)) := by
  cases x with
  | mk a b c l => rw [gT]; rfl
theorem gTs_drop {d : Int} {l : List GTerm} {j : Nat} (h : j < l.length) : gTs d (l.drop j) = (gT d l[j] && gTs d (l.drop (j + 1))) := by
  rw [List.drop_eq_getElem_cons h, gTs]
theorem ns_drop {l : List GTerm} {j : Nat} (h : j < l.length) : nsum nT (l.drop j) = 1 + nT l[j] + nsum nT (l.drop (j + 1)) := by
  rw [List.drop_eq_getElem_cons h, nsum]

theorem l03One {k : Nat} {x : GTerm} (hx : x.ok) (hk : maxLen < k) : pspec_l03One k x = some (one x) := by
  have hn := l03Name (k := k) (s := x.gName) (ok_name hx) hk
  unfold pspec_l03One one
  simp only [hn, l01In, Option.bind_some]
  by_cases c1 : x.gKind = 1
  · rw [if_pos (by simpa using c1), if_pos c1]
    cases inR x.gNum 0 99999 <;> cases sEq x.gName (bs []) <;> simp
  rw [if_neg (by simpa using c1), if_neg c1]
  by_cases c2 : x.gKind = 2
  · rw [if_pos (by simpa using c2), if_pos c2]
    cases decide (nmOk x.gName) <;> by_cases h : x.gNum = 0 <;> simp [h]
  rw [if_neg (by simpa using c2), if_neg c2]
  by_cases c3 : x.gKind = 3
  · rw [if_pos (by simpa using c3), if_pos c3]
    cases inR x.gNum (-999999999) 999999999 <;> cases sEq x.gName (bs []) <;> simp
  rw [if_neg (by simpa using c3), if_neg c3]
  by_cases c4 : x.gKind = 4
  · rw [if_pos (by simpa using c4), if_pos c4]
    cases decide (nmOk x.gName) <;> by_cases h : x.gNum = 0 <;> simp [h]
  · rw [if_neg (by simpa using c4), if_neg c4]

/-- What is left of so many terms. -/
def leftOf (v left : Int) (n : Nat) : Prop := -1 ≤ v ∧ (0 ≤ v ↔ (n : Int) ≤ left) ∧ (0 ≤ v → v = left - (n : Int))
theorem l03Count_L1 {k : Nat} {x : GTerm} {f : GTerm → Int → Option Int} (hx : x.gKids.length ≤ maxLen) (hf : ∀ y ∈ x.gKids, ∀ b, 0 ≤ b → b ≤ 400 → ∃ v, f y b = some v ∧ leftOf v b (1 + nT y)) :
    ∀ (m j : Nat) (b : Int), j ≤ x.gKids.length → x.gKids.length - j < m → -1 ≤ b → b ≤ 400 →
      ∃ v, pspec_l03Count_L1 k f x m b (j : Int) = some (.done v) ∧ ((b = -1 ∧ v = -1) ∨ (0 ≤ b ∧ leftOf v b (nsum nT (x.gKids.drop j))))
  | 0, j, b, h1, h2, h3, h4 => by omega
  | m + 1, j, b, h1, h2, h3, h4 => by
    unfold pspec_l03Count_L1
    by_cases hlt : j < x.gKids.length
    · rw [if_pos (by simpa using hlt)]
      by_cases hb : 0 ≤ b
      · rw [if_pos (by simpa using hb), at_lt hlt]
        simp only [Option.bind_some]
        obtain ⟨v, e, g1, g2, g3⟩ := hf _ (List.getElem_mem hlt) b hb h4
        rw [e]
        simp only [Option.bind_some]
        rw [wr_succ hlt hx]
        obtain ⟨u, e2, h5⟩ := l03Count_L1 (k := k) hx hf m (j + 1) v (by omega) (by omega) g1 (by by_cases h : 0 ≤ v <;> omega)
        refine ⟨u, e2, .inr ⟨hb, ?_⟩⟩
        rw [ns_drop hlt]
        rcases h5 with ⟨rfl, rfl⟩ | ⟨h6, h7, h8, h9⟩
        · refine ⟨by omega, ⟨fun h => by omega, fun h => by have := g2.2 (by omega); omega⟩, fun h => by omega⟩
        · have := g3 h6
          have := g2.1 h6
          refine ⟨h7, ⟨fun h => by have := h8.1 h; omega, fun h => h8.2 (by omega)⟩, fun h => by have := h9 h; omega⟩
      · rw [if_neg (by simpa using hb)]
        exact ⟨b, rfl, .inl ⟨by omega, by omega⟩⟩
    · rw [if_neg (by simpa using hlt)]
      rw [List.drop_of_length_le (by omega)]
      by_cases hb : 0 ≤ b
      · exact ⟨b, rfl, .inr ⟨hb, h3, by simp only [nsum]; omega, fun _ => by simp only [nsum]; omega⟩⟩
      · exact ⟨b, rfl, .inl ⟨by omega, by omega⟩⟩

theorem l03Count : ∀ (k : Nat) (x : GTerm), maxLen + 2 * nT x + 2 < k → x.ok → ∀ b : Int, 0 ≤ b → b ≤ 400 → ∃ v, pspec_l03Count k x b = some v ∧ leftOf v b (1 + nT x)
  | 0, x, h => by omega
  | k + 1, x, hw => by
    intro hx b h0 h1
    have hn := nT_kids x
    unfold pspec_l03Count
    rw [wr_i64 (by omega) (by omega)]
    obtain ⟨v, e, h⟩ := l03Count_L1 (k := k) (x := x) (ok_kids hx).1 (fun y hy b h0 h1 => by have := nsum_mem (n := nT) hy; exact l03Count k y (by omega) ((ok_kids hx).2 y hy) b h0 h1) k 0 (b - 1) (by omega) (by have := (ok_kids hx).1; omega) (by omega) (by omega)
    rw [show ((0 : Nat) : Int) = 0 from rfl] at e
    rw [e]
    refine ⟨v, rfl, ?_⟩
    rw [List.drop_zero, ← hn] at h
    rcases h with ⟨h2, rfl⟩ | ⟨h2, h3, h4, h5⟩
    · exact ⟨by omega, ⟨fun h => by omega, fun h => by omega⟩, fun h => by omega⟩
    · exact ⟨h3, ⟨fun h => by have := h4.1 h; omega, fun h => h4.2 (by omega)⟩, fun h => by have := h5 h; omega⟩

theorem l03Right_L1 {k : Nat} {x : GTerm} {d : Int} {f : GTerm → Int → Option Bool} (hx : x.gKids.length ≤ maxLen) (hd : wr.i64 (d + 1) = d + 1) (hf : ∀ y ∈ x.gKids, f y (d + 1) = some (gT (d + 1) y)) :
    ∀ (m j : Nat), j ≤ x.gKids.length → x.gKids.length - j < m → pspec_l03Right_L1 k f x d m (j : Int) = some (if gTs (d + 1) (x.gKids.drop j) then .done () else .ret false)
  | 0, j, h1, h2 => by omega
  | m + 1, j, h1, h2 => by
    unfold pspec_l03Right_L1
    by_cases hlt : j < x.gKids.length
    · rw [if_pos (by simpa using hlt), at_lt hlt, hd]
      simp only [Option.bind_some, hf _ (List.getElem_mem hlt)]
      rw [gTs_drop hlt]
      cases hg : gT (d + 1) x.gKids[j] with
      | false => simp
      | true =>
        rw [if_neg (by simp), wr_succ hlt hx, l03Right_L1 hx hd hf m (j + 1) (by omega) (by omega)]
        simp
    · rw [if_neg (by simpa using hlt), List.drop_of_length_le (by omega), gTs]; rfl

theorem l03Right : ∀ (k : Nat) (x : GTerm), maxLen + 2 * nT x + 2 < k → x.ok → ∀ d : Int, 0 ≤ d → d ≤ 41 → pspec_l03Right k x d = some (gT d x)
  | 0, x, h => by omega
  | k + 1, x, hw => by
    intro hx d h0 h1
    have hn := nT_kids x
    unfold pspec_l03Right
    rw [gT_eq]
    by_cases hd : d > 40
    · rw [if_pos (by simpa using hd)]; simp; omega
    · rw [if_neg (by simpa using hd), l03One hx (by omega)]
      simp only [Option.bind_some]
      cases h1 : one x with
      | false => simp
      | true =>
        rw [if_neg (by simp)]
        have e := l03Right_L1 (k := k) (x := x) (d := d) (ok_kids hx).1 (wr_i64 (by omega) (by omega)) (fun y hy => by have := nsum_mem (n := nT) hy; exact l03Right k y (by omega) ((ok_kids hx).2 y hy) (d + 1) (by omega) (by omega)) k 0 (by omega) (by have := (ok_kids hx).1; omega)
        rw [show ((0 : Nat) : Int) = 0 from rfl, List.drop_zero] at e
        rw [e]
        cases gTs (d + 1) x.gKids <;> simp <;> omega

/-- A term is right. -/
def tOk (x : GTerm) : Bool := decide (1 + nT x ≤ 400) && gT 1 x
theorem spec_TermOk {k : Nat} {x : GTerm} (hw : maxLen + 2 * nT x + 2 < k) (hx : x.ok) : pspec_TermOk k x = some (tOk x) := by
  unfold pspec_TermOk tOk
  obtain ⟨v, e, h1, h2, h3⟩ := l03Count k x hw hx 400 (by omega) (by omega)
  rw [e]
  simp only [Option.bind_some]
  by_cases hv : 0 ≤ v
  · rw [if_pos (by simpa using hv), l03Right k x hw hx 1 (by omega) (by omega)]
    have := h2.1 hv
    simp; omega
  · rw [if_neg (by simpa using hv)]
    have : ¬ (1 + nT x ≤ 400) := fun h => hv (h2.2 (by omega))
    simp [this]

/-- What the program counts. -/
def cnt (d : Int) (x : GTerm) : Int := if gT d x && decide (1 + nT x ≤ 400) then ((1 + nT x : Nat) : Int) else 401
theorem sized_L2 {k : Nat} {x : GTerm} {d : Int} {f : GTerm → Int → Option Int} (hx : x.gKids.length ≤ maxLen) (hd : wr.i64 (d + 1) = d + 1) (hf : ∀ y ∈ x.gKids, f y (d + 1) = some (cnt (d + 1) y)) :
    ∀ (m j : Nat) (b : Int), j ≤ x.gKids.length → x.gKids.length - j < m → 1 ≤ b → b ≤ 400 →
      pimpl_sized_L2 k f x d m b (j : Int) = some (if gTs (d + 1) (x.gKids.drop j) && decide (b + (nsum nT (x.gKids.drop j) : Int) ≤ 400) then .done (b + (nsum nT (x.gKids.drop j) : Int)) else .ret 401)
  | 0, j, b, h1, h2, h3, h4 => by omega
  | m + 1, j, b, h1, h2, h3, h4 => by
    unfold pimpl_sized_L2
    by_cases hlt : j < x.gKids.length
    · rw [if_pos (by simpa using hlt), at_lt hlt, hd]
      simp only [Option.bind_some, hf _ (List.getElem_mem hlt)]
      rw [gTs_drop hlt, ns_drop hlt, wr_succ hlt hx]
      by_cases hg : gT (d + 1) x.gKids[j] = true ∧ 1 + nT x.gKids[j] ≤ 400
      · have hc : cnt (d + 1) x.gKids[j] = ((1 + nT x.gKids[j] : Nat) : Int) := by unfold cnt; rw [if_pos (by simpa using hg)]
        rw [hc, wr_i64 (by omega) (by omega)]
        by_cases hs : b + ((1 + nT x.gKids[j] : Nat) : Int) > 400
        · rw [if_pos (by simpa using hs), if_neg]
          simp only [Bool.and_eq_true, decide_eq_true_eq, not_and]
          intro _; omega
        · rw [if_neg (by simpa using hs), sized_L2 hx hd hf m (j + 1) _ (by omega) (by omega) (by omega) (by omega), hg.1, Bool.true_and]
          have e1 : b + ((1 + nT x.gKids[j] : Nat) : Int) + (nsum nT (x.gKids.drop (j + 1)) : Int) = b + ((1 + nT x.gKids[j] + nsum nT (x.gKids.drop (j + 1)) : Nat) : Int) := by omega
          rw [e1]
      · have hc : cnt (d + 1) x.gKids[j] = 401 := by unfold cnt; rw [if_neg (by simpa using hg)]
        rw [hc, wr_i64 (by omega) (by omega), if_pos (by simp; omega), if_neg]
        simp only [Bool.and_eq_true, decide_eq_true_eq, not_and]
        intro h5
        have h6 : ¬ (1 + nT x.gKids[j] ≤ 400) := fun h => hg ⟨h5.1, h⟩
        omega
    · rw [if_neg (by simpa using hlt), List.drop_of_length_le (by omega), gTs, if_pos (by simp only [nsum]; simp; omega)]
      simp [nsum]

theorem sized : ∀ (k : Nat) (x : GTerm), maxLen + 2 * nT x + 2 < k → x.ok → ∀ d : Int, 0 ≤ d → d ≤ 41 → pimpl_sized k x d = some (cnt d x)
  | 0, x, h => by omega
  | k + 1, x, hw => by
    intro hx d h0 h1
    have hn := nT_kids x
    have hnm := nameOk (k := k) (s := x.gName) (ok_name hx) (by omega)
    have hJ : d ≤ 40 → one x = true → pimpl_sized_J1 k (pimpl_sized k) x d = some (cnt d x) := by
      intro hd h1
      unfold pimpl_sized_J1 cnt
      have e := sized_L2 (k := k) (x := x) (d := d) (ok_kids hx).1 (wr_i64 (by omega) (by omega)) (fun y hy => by have := nsum_mem (n := nT) hy; exact sized k y (by omega) ((ok_kids hx).2 y hy) (d + 1) (by omega) (by omega)) k 0 1 (by omega) (by have := (ok_kids hx).1; omega) (by omega) (by omega)
      rw [show ((0 : Nat) : Int) = 0 from rfl, List.drop_zero, ← hn] at e
      rw [e, gT_eq, h1, Bool.true_and, decide_eq_true hd, Bool.true_and]
      have e2 : decide (1 + (nT x : Int) ≤ 400) = decide (1 + nT x ≤ 400) := by rw [decide_eq_decide]; omega
      rw [e2]
      split
      · simp
      · simp
    have hbad : one x = false → (401 : Int) = cnt d x := by
      intro h1; unfold cnt; rw [gT_eq, h1]; simp
    unfold pimpl_sized
    by_cases hd : d > 40
    · rw [if_pos (by simpa using hd)]
      unfold cnt; rw [gT_eq, decide_eq_false (show ¬ d ≤ 40 by omega)]; simp
    have hJ' := hJ (by omega)
    rw [if_neg (by simpa using hd)]
    simp only [hnm, within, Option.bind_some]
    generalize pimpl_sized_J1 k (pimpl_sized k) x d = J at hJ' ⊢
    generalize cnt d x = C at hJ' hbad ⊢
    have hlen : ((x.gKids.length : Int) > 0) ↔ ¬ ((x.gKids.length : Int) = 0) := by omega
    unfold one at hJ' hbad
    by_cases c1 : x.gKind = 1
    · rw [if_pos (by simpa using c1)]
      rw [if_pos c1] at hJ' hbad
      cases h2 : inR x.gNum 0 99999 <;> cases h3 : sEq x.gName (bs []) <;> by_cases h4 : (x.gKids.length : Int) = 0 <;> simp_all
    rw [if_neg (by simpa using c1)]
    rw [if_neg c1] at hJ' hbad
    by_cases c2 : x.gKind = 2
    · rw [if_pos (by simpa using c2)]
      rw [if_pos c2] at hJ' hbad
      cases h2 : decide (nmOk x.gName) <;> by_cases h3 : x.gNum = 0 <;> by_cases h4 : (x.gKids.length : Int) = 0 <;> simp_all
    rw [if_neg (by simpa using c2)]
    rw [if_neg c2] at hJ' hbad
    by_cases c3 : x.gKind = 3
    · rw [if_pos (by simpa using c3)]
      rw [if_pos c3] at hJ' hbad
      cases h2 : inR x.gNum (-999999999) 999999999 <;> cases h3 : sEq x.gName (bs []) <;> by_cases h4 : (x.gKids.length : Int) = 0 <;> simp_all
    rw [if_neg (by simpa using c3)]
    rw [if_neg c3] at hJ' hbad
    by_cases c4 : x.gKind = 4
    · rw [if_pos (by simpa using c4)]
      rw [if_pos c4] at hJ' hbad
      cases h2 : decide (nmOk x.gName) <;> by_cases h3 : x.gNum = 0 <;> cases h4 : inR (x.gKids.length : Int) 1 5 <;> simp_all
    · rw [if_neg (by simpa using c4)]
      rw [if_neg c4] at hbad
      rw [hbad rfl]

theorem impl_TermOk {k : Nat} {x : GTerm} (hw : maxLen + 2 * nT x + 2 < k) (hx : x.ok) : pimpl_TermOk k x = some (tOk x) := by
  unfold pimpl_TermOk tOk
  rw [sized k x hw hx 1 (by omega) (by omega)]
  simp only [Option.bind_some]
  unfold cnt
  cases gT 1 x <;> by_cases h : 1 + nT x ≤ 400 <;> simp [h] <;> omega
theorem l34Terms_L1 {k : Nat} {f : GTerm → Option GTerm} {g : List GTerm → Option (List GTerm)} {l : List GTerm} (hl : l.length ≤ 1048576) (hf : ∀ x ∈ l, f x = some x) :
    ∀ (m j : Nat), j ≤ l.length → l.length - j < m → pspec_l34Terms_L1 k f g l m (l.take j) (j : Int) = some (.done l)
  | 0, j, h1, h2 => by omega
  | m + 1, j, h1, h2 => by
    unfold pspec_l34Terms_L1
    have hm : l.length ≤ maxLen := by rw [maxLen_eq]; omega
    by_cases hlt : j < l.length
    · rw [if_pos (by simpa using hlt), at_lt hlt]
      simp only [Option.bind_some, hf _ (List.getElem_mem hlt)]
      rw [if_pos (by simp; omega), wr_succ hlt hm, ← List.take_succ_eq_append_getElem hlt]
      exact l34Terms_L1 hl hf m (j + 1) (by omega) (by omega)
    · rw [if_neg (by simpa using hlt), List.take_of_length_le (by omega)]
theorem l34Both : ∀ k : Nat, (∀ l, maxLen + 2 * nsum nT l + 1 < k → nsum nT l ≤ 16777216 → l.length ≤ 1048576 → (∀ x ∈ l, nT x ≤ 1048576) → pspec_l34Terms k l = some l) ∧ (∀ x, maxLen + 2 * nT x + 2 < k → nT x ≤ 1048576 → pspec_l34Term k x = some x)
  | 0 => ⟨fun l h => by omega, fun x h => by omega⟩
  | k + 1 => by
    obtain ⟨ih1, ih2⟩ := l34Both k
    refine ⟨fun l hw hl h3 h4 => ?_, fun x hw hx => ?_⟩
    · have := nsum_len nT l
      unfold pspec_l34Terms
      have e := l34Terms_L1 (k := k) (f := pspec_l34Term k) (g := pspec_l34Terms k) (l := l) (by omega) (fun x hx => by have := nsum_mem (n := nT) hx; exact ih2 x (by omega) (h4 x hx)) k 0 (by omega) (by omega)
      rw [show ((0 : Nat) : Int) = 0 from rfl, List.take_zero] at e
      rw [e]; rfl
    · have hk := nT_kids x
      have := nsum_len nT x.gKids
      unfold pspec_l34Term
      rw [ih1 x.gKids (by omega) (by omega) (by omega) (fun y hy => by have := nsum_mem (n := nT) hy; omega)]
      cases x; rfl
theorem l34Term {k : Nat} {x : GTerm} (hw : maxLen + 2 * nT x + 2 < k) (hx : nT x ≤ 1048576) : pspec_l34Term k x = some x := (l34Both k).2 x hw hx
theorem l34Terms {k : Nat} {l : List GTerm} (hw : maxLen + 2 * nsum nT l + 2 < k) (hx : nsum nT l ≤ 1048576) : pspec_l34Terms k l = some l := by
  have := nsum_len nT l
  exact (l34Both k).1 l (by omega) (by omega) (by omega) (fun x hx => by have := nsum_mem (n := nT) hx; omega)
theorem renamed_L2 {k : Nat} {f : GTerm → Option GTerm} {x : GTerm} {a c : Int} {b : ByteArray} (hl : x.gKids.length ≤ 1048576) (hf : ∀ y ∈ x.gKids, f y = some y) :
    ∀ (m j : Nat), j ≤ x.gKids.length → x.gKids.length - j < m → pimpl_renamed_on1_pimpl_copyTerm_1_L2 k f x m (j : Int) (.mk a b c (x.gKids.take j)) = some (.done (.mk a b c x.gKids))
  | 0, j, h1, h2 => by omega
  | m + 1, j, h1, h2 => by
    unfold pimpl_renamed_on1_pimpl_copyTerm_1_L2
    have hm : x.gKids.length ≤ maxLen := by rw [maxLen_eq]; omega
    by_cases hlt : j < x.gKids.length
    · rw [if_pos (by simpa using hlt), at_lt hlt]
      simp only [Option.bind_some, hf _ (List.getElem_mem hlt)]
      rw [show (GTerm.mk a b c (x.gKids.take j)).gKids = x.gKids.take j from rfl, show (GTerm.mk a b c (x.gKids.take j)).gKind = a from rfl, show (GTerm.mk a b c (x.gKids.take j)).gName = b from rfl, show (GTerm.mk a b c (x.gKids.take j)).gNum = c from rfl]
      rw [if_pos (by simp; omega), wr_succ hlt hm, ← List.take_succ_eq_append_getElem hlt]
      exact renamed_L2 hl hf m (j + 1) (by omega) (by omega)
    · rw [if_neg (by simpa using hlt), List.take_of_length_le (by omega)]
theorem renamed : ∀ (k : Nat) (x : GTerm), maxLen + 2 * nT x + 2 < k → nT x ≤ 1048576 → pimpl_renamed_on1_pimpl_copyTerm_1 k x = some x
  | 0, x, h => by omega
  | k + 1, x, hw => by
    intro hx
    have hk := nT_kids x
    have := nsum_len nT x.gKids
    have e := renamed_L2 (k := k) (f := pimpl_renamed_on1_pimpl_copyTerm_1 k) (x := x) (a := x.gKind) (b := x.gName) (c := x.gNum) (by omega) (fun y hy => by have := nsum_mem (n := nT) hy; exact renamed k y (by omega) (by omega)) k 0 (by omega) (by omega)
    rw [show ((0 : Nat) : Int) = 0 from rfl, List.take_zero] at e
    have hx : GTerm.mk x.gKind x.gName x.gNum x.gKids = x := by cases x; rfl
    rw [hx] at e
    have e2 : pimpl_renamed_on1_pimpl_copyTerm_1_J1 k (pimpl_renamed_on1_pimpl_copyTerm_1 k) x (GTerm.mk x.gKind x.gName x.gNum []) = some x := by
      unfold pimpl_renamed_on1_pimpl_copyTerm_1_J1; rw [e]; rfl
    unfold pimpl_renamed_on1_pimpl_copyTerm_1
    simp only [pimpl_copyTerm_1, Option.bind_some, e2]
    split <;> rfl
theorem copyTerm {k : Nat} {x : GTerm} (hw : maxLen + 2 * nT x + 2 < k) (hx : nT x ≤ 1048576) : pimpl_copyTerm k x = some x := by
  unfold pimpl_copyTerm; rw [renamed k x hw hx]; rfl
theorem nT_leaf (a : Int) (b : ByteArray) (c : Int) : nT (GTerm.mk a b c []) = 0 := by rw [nT, nTs]
/-- The list of terms, with an end. -/
def mkL (l : List GTerm) (a : GTerm) : GTerm := l.foldr (fun x a => .mk 4 (bs [46]) 0 [x, a]) a
theorem mkL_snoc (l : List GTerm) (x a : GTerm) : mkL (l ++ [x]) a = mkL l (.mk 4 (bs [46]) 0 [x, a]) := by simp [mkL]
theorem mkL_n (a : GTerm) : ∀ l : List GTerm, nT (mkL l a) = nsum nT l + l.length + nT a
  | [] => by simp [mkL, nsum]
  | x :: l => by
    have h := mkL_n a l
    unfold mkL at h ⊢
    simp only [List.foldr_cons, nT, nTs, h, nsum, List.length_cons]
    omega
theorem ok_pair {x y : GTerm} (hx : x.ok) (hy : y.ok) : (GTerm.mk 4 (bs [46]) 0 [x, y]).ok := by
  refine .mk _ _ _ _ (by unfold okI; decide) ?_ (by unfold okI; decide) ?_ ?_
  · unfold okFs; rw [maxLen_eq]; have : (bs [46]).size = 1 := rfl; omega
  · rw [maxLen_eq]; simp
  · intro z hz
    simp only [List.mem_cons, List.not_mem_nil, or_false] at hz
    rcases hz with rfl | rfl
    · exact hx
    · exact hy
theorem ok_nil : (GTerm.mk 2 (bs [91, 93]) 0 []).ok := by
  refine .mk _ _ _ _ (by unfold okI; decide) ?_ (by unfold okI; decide) ?_ ?_
  · unfold okFs; rw [maxLen_eq]; have : (bs [91, 93]).size = 2 := rfl; omega
  · rw [maxLen_eq]; simp
  · intro z hz; cases hz
theorem mkL_ok {a : GTerm} (ha : a.ok) : ∀ {l : List GTerm}, (∀ x ∈ l, x.ok) → (mkL l a).ok
  | [], h => ha
  | x :: l, h => ok_pair (h x (by simp)) (mkL_ok ha (fun y hy => h y (by simp [hy])))
theorem l21Make_L1 {k : Nat} {l : List GTerm} (hl : l.length ≤ 1048576) : ∀ (j m : Nat) (a : GTerm), j ≤ l.length → j < m → pspec_l21Make_L1 k l m ((j : Int) - 1) a = some (.done (mkL (l.take j) a))
  | j, 0, a, h1, h2 => by omega
  | 0, m + 1, a, h1, h2 => by
    unfold pspec_l21Make_L1
    rw [if_neg (by simp)]; rfl
  | j + 1, m + 1, a, h1, h2 => by
    have ei : ((j + 1 : Nat) : Int) - 1 = (j : Int) := by omega
    rw [ei]
    unfold pspec_l21Make_L1
    have hlt : j < l.length := by omega
    rw [if_pos (by simp), at_lt hlt]
    simp only [pspec_l03Two, Option.bind_some]
    rw [wr_i64 (by omega) (by omega), l21Make_L1 hl j m _ (by omega) (by omega), List.take_succ_eq_append_getElem hlt, mkL_snoc]
theorem listOf_L1 {k : Nat} {l : List GTerm} (hl : nsum nT l ≤ 1048576) (hk : maxLen + 2 * nsum nT l + 2 < k) : ∀ (j m : Nat) (a : GTerm), j ≤ l.length → j < m → pimpl_listOf_L1 k l m ((j : Int) - 1) a = some (.done (mkL (l.take j) a))
  | j, 0, a, h1, h2 => by omega
  | 0, m + 1, a, h1, h2 => by
    unfold pimpl_listOf_L1
    rw [if_neg (by simp)]; rfl
  | j + 1, m + 1, a, h1, h2 => by
    have ei : ((j + 1 : Nat) : Int) - 1 = (j : Int) := by omega
    rw [ei]
    unfold pimpl_listOf_L1
    have hlt : j < l.length := by omega
    have hlen := nsum_len nT l
    have hmem := nsum_mem (n := nT) (List.getElem_mem hlt)
    rw [if_pos (by simp), at_lt hlt]
    simp only [Option.bind_some]
    rw [copyTerm (by omega) (by omega)]
    simp only [pimpl_structure, Option.bind_some]
    rw [wr_i64 (by omega) (by omega), listOf_L1 hl hk j m _ (by omega) (by omega), List.take_succ_eq_append_getElem hlt, mkL_snoc]

theorem isStruct (k : Nat) (x : GTerm) (s : ByteArray) (n : Int) : pimpl_isStruct k x s n = pspec_l03Is k x s n := rfl
theorem l03Is_spec (k : Nat) (t : GTerm) (s : ByteArray) : ∃ b, pspec_l03Is k t s 2 = some b ∧ (b = true → t.gKind = 4 ∧ t.gName = s ∧ t.gKids.length = 2) := by
  unfold pspec_l03Is
  by_cases c1 : t.gKind = 4
  · rw [if_pos (by simpa using c1)]
    cases c2 : sEq t.gName s with
    | false => exact ⟨_, rfl, fun h => by cases h⟩
    | true => exact ⟨_, rfl, fun h => ⟨c1, sEq_iff.1 c2, by simp at h; omega⟩⟩
  · rw [if_neg (by simpa using c1)]
    exact ⟨_, rfl, fun h => by cases h⟩
theorem gT_num {d : Int} {t : GTerm} (h : gT d t = true) (h4 : t.gKind = 4) : t.gNum = 0 := by
  rw [gT_eq] at h
  unfold one at h
  simp [h4] at h
  exact h.2.1.2.1
theorem gT_atom {d : Int} {t : GTerm} (h : gT d t = true) (h2 : t.gKind = 2) : t.gNum = 0 ∧ t.gKids = [] := by
  rw [gT_eq] at h
  unfold one at h
  simp [h2] at h
  refine ⟨h.2.1.2.1, ?_⟩
  have := h.2.1.2.2
  first | exact this | exact List.length_eq_zero_iff.1 (by omega)
theorem gTs_two {d : Int} {x y : GTerm} (h : gTs d [x, y] = true) : gT d y = true := by
  simp [gTs] at h; exact h.2
theorem items_L1 {k : Nat} : ∀ (m : Nat) (t : GTerm) (c : List GTerm), nT t < m → nT t ≤ 1048576 → maxLen + 2 * nT t + 2 < k → nsum nT c + nT t ≤ 1048576 →
    ∃ l t', pspec_l21ItemsOfRaw_L1 k m c t = some (.done (c ++ l, t')) ∧ pimpl_ItemsOf_L1 k m c t = some (.done (c ++ l, t')) ∧ nsum nT (c ++ l) ≤ 1048576 ∧ nsum nT l ≤ nT t ∧ (t.ok → ∀ x ∈ l, x.ok) ∧ (∀ d, gT d t = true → t = mkL l t' ∧ ∃ d', gT d' t' = true)
  | 0, t, c, h1 => by omega
  | m + 1, t, c, h1 => by
    intro h2 h3 h4
    unfold pspec_l21ItemsOfRaw_L1 pimpl_ItemsOf_L1 pimpl_isPair
    rw [isStruct]
    obtain ⟨b, e, hlen⟩ := l03Is_spec k t (bs [46])
    rw [e]
    simp only [Option.bind_some]
    cases b with
    | false => exact ⟨[], t, by simp, by simp, by simp; omega, by simp [nsum], (fun _ x hx => by cases hx), fun d hd => ⟨rfl, d, hd⟩⟩
    | true =>
      obtain ⟨hk4, hnm, hl⟩ := hlen rfl
      have hk := nT_kids t
      match hks : t.gKids, hl with
      | [x, y], _ =>
        rw [hks] at hk
        simp only [nsum] at hk
        have a0 : at' [x, y] 0 = some x := rfl
        have a1 : at' [x, y] 1 = some y := rfl
        have hc := nsum_len nT c
        have hcp := copyTerm (k := k) (x := x) (by omega) (by omega)
        rw [if_pos rfl, if_pos rfl, a0, a1]
        simp only [Option.bind_some, hcp]
        rw [if_pos (by simp; omega), if_pos (by simp; omega)]
        have happ := nsum_append nT c [x]
        simp only [nsum] at happ
        obtain ⟨l, t', g1, g2, g3, g4, g5, g6⟩ := items_L1 (k := k) m y (c ++ [x]) (by omega) (by omega) (by omega) (by omega)
        have ea : c ++ [x] ++ l = c ++ x :: l := by simp
        rw [ea] at g1 g2 g3
        refine ⟨x :: l, t', g1, g2, g3, by simp only [nsum]; omega, fun hok z hz => ?_, fun d hd => ?_⟩
        · have hkk := (ok_kids hok).2
          rw [hks] at hkk
          rcases List.mem_cons.1 hz with rfl | hz
          · exact hkk _ (by simp)
          · exact g5 (hkk y (by simp)) z hz
        · have hnum := gT_num hd hk4
          have hd2 := hd
          rw [gT_eq, hks] at hd2
          simp only [Bool.and_eq_true] at hd2
          obtain ⟨q1, q2⟩ := g6 _ (gTs_two hd2.2.2)
          refine ⟨?_, q2⟩
          have ht : t = .mk 4 (bs [46]) 0 [x, y] := by
            cases t with
            | mk a b c l =>
              have e1 : a = 4 := hk4
              have e2 : b = bs [46] := hnm
              have e3 : c = 0 := hnum
              have e4 : l = [x, y] := hks
              rw [e1, e2, e3, e4]
          rw [ht, q1]; rfl

/-- What the two answer: the items, if the term is right and a list. -/
theorem items {k : Nat} {t : GTerm} (hn : nT t ≤ 1048576) (ht : t.ok) (hk : maxLen + 4 * nT t + 4 * 1048576 + 100 < k) :
    ∃ l b, pspec_ItemsOf k t = some (l, b) ∧ pimpl_ItemsOf k t = some (l, b) ∧ nsum nT l ≤ 1048576 ∧ nsum nT l ≤ nT t ∧ (∀ x ∈ l, x.ok) ∧ (b = true → t = mkL l (.mk 2 (bs [91, 93]) 0 [])) := by
  have hm : maxLen = 9223372036854775807 := maxLen_eq
  have f1 := spec_TermOk (k := k) (x := t) (by omega) ht
  have f2 := impl_TermOk (k := k) (x := t) (by omega) ht
  obtain ⟨c', t', g1, g2, g3, g4, g5, g6⟩ := items_L1 (k := k) k t [] (by omega) hn (by omega) (by simp only [nsum]; omega)
  rw [List.nil_append] at g1 g2 g3
  have hnil : pspec_l34Terms k [] = some [] := l34Terms (by simp only [nsum]; omega) (by simp only [nsum]; omega)
  have hcc := l34Terms (k := k) (l := c') (by omega) g3
  have no : ∀ b : Bool, b = false → ∃ l b', ([], b) = ((l, b') : List GTerm × Bool) ∧ ([], b) = (l, b') ∧ nsum nT l ≤ 1048576 ∧ nsum nT l ≤ nT t ∧ (∀ x ∈ l, x.ok) ∧ (b' = true → t = mkL l (.mk 2 (bs [91, 93]) 0 [])) := by
    rintro b rfl
    exact ⟨[], false, rfl, rfl, by simp [nsum], by simp [nsum], (fun x hx => by cases hx), fun h => by cases h⟩
  unfold pspec_ItemsOf pspec_l21ItemsOfRaw pimpl_ItemsOf pimpl_isAtom
  simp only [f1, f2, g1, g2, Option.bind_some]
  cases h5 : tOk t with
  | false =>
    simp only [Bool.not_false, if_true, Option.bind_some, hnil]
    exact ⟨[], false, rfl, rfl, by simp [nsum], by simp [nsum], (fun x hx => by cases hx), fun h => by cases h⟩
  | true =>
    simp only [Bool.not_true, Bool.false_eq_true, if_false]
    have hk2 : (t'.gKind != 2) = !(t'.gKind == 2) := rfl
    rw [hk2]
    cases c2 : (t'.gKind == 2) with
    | true =>
      cases h6 : sEq t'.gName (bs [91, 93]) with
      | false =>
        simp only [Bool.not_true, Bool.not_false, Bool.false_eq_true, if_true, if_false, Option.bind_some, hnil]
        exact ⟨[], false, rfl, rfl, by simp [nsum], by simp [nsum], (fun x hx => by cases hx), fun h => by cases h⟩
      | true =>
        simp only [Bool.not_true, Bool.not_false, Bool.false_eq_true, if_true, if_false, Option.bind_some, hcc]
        refine ⟨c', true, rfl, rfl, g3, g4, g5 ht, fun _ => ?_⟩
        have hg : gT 1 t = true := by unfold tOk at h5; simp only [Bool.and_eq_true] at h5; exact h5.2
        obtain ⟨q1, d', q2⟩ := g6 1 hg
        obtain ⟨q3, q4⟩ := gT_atom q2 (by simpa using c2)
        have q5 := sEq_iff.1 h6
        have : t' = .mk 2 (bs [91, 93]) 0 [] := by
          cases t' with
          | mk a b c l =>
            have e1 : a = 2 := by simpa [GTerm.gKind] using c2
            have e2 : b = bs [91, 93] := q5
            have e3 : c = 0 := q3
            have e4 : l = [] := q4
            rw [e1, e2, e3, e4]
        rw [← this]; exact q1
    | false =>
      simp only [Bool.not_true, Bool.not_false, Bool.false_eq_true, if_true, if_false, Option.bind_some, hnil]
      exact ⟨[], false, rfl, rfl, by simp [nsum], by simp [nsum], (fun x hx => by cases hx), fun h => by cases h⟩
theorem z34n : nT ((GTerm.mk 0 (bs []) 0 [], false) : GTerm × Bool).1 ≤ 1048576 := by
  show nT (GTerm.mk 0 (bs []) 0 []) ≤ 1048576
  rw [nT_leaf]; exact Nat.zero_le _
theorem z34 {k : Nat} (hk : maxLen + 2 < k) : pspec_l34Term k (.mk 0 (bs []) 0 []) = some (.mk 0 (bs []) 0 []) := by
  have h0 := nT_leaf 0 (bs []) 0
  have h1 : maxLen + 2 * nT (GTerm.mk 0 (bs []) 0 []) + 2 < k := by rw [h0]; exact hk
  have h2 : nT (GTerm.mk 0 (bs []) 0 []) ≤ 1048576 := by rw [h0]; exact Nat.zero_le _
  exact l34Term h1 h2
theorem mkL_app (a : GTerm) (l m : List GTerm) : mkL (l ++ m) a = mkL l (mkL m a) := by simp [mkL]
theorem eta (x : GTerm) : GTerm.mk x.gKind x.gName x.gNum x.gKids = x := by cases x; rfl
theorem same {k : Nat} {a b : GTerm} (hab : nT a + nT b ≤ 1048576) (oa : a.ok) (ob : b.ok) (hk : maxLen + 1099511627776 < k) :
    ∃ p, pspec_JoinedLists k a b = some p ∧ pimpl_JoinedLists k a b = some p ∧ nT p.1 ≤ 1048576 := by
  have hm : maxLen = 9223372036854775807 := maxLen_eq
  have ha : nT a ≤ 1048576 := by omega
  have hb : nT b ≤ 1048576 := by omega
  obtain ⟨x, p, x1, x2, x3, x4, x5, x6⟩ := items (k := k) ha oa (by omega)
  obtain ⟨y, q, y1, y2, y3, y4, y5, y6⟩ := items (k := k) hb ob (by omega)
  have lx := nsum_len nT x
  have ly := nsum_len nT y
  have hxy := nsum_append nT x y
  have mk := l21Make_L1 (k := k) (l := x ++ y) (by simp; omega) (x ++ y).length k (.mk 2 (bs [91, 93]) 0 []) (Nat.le_refl _) (by simp; omega)
  have lo := listOf_L1 (k := k) (l := x) x3 (by omega) x.length k b (Nat.le_refl _) (by omega)
  rw [List.take_length] at mk lo
  have hw1 : wr.i64 (((x ++ y).length : Int) - 1) = ((x ++ y).length : Int) - 1 := wr_i64 (by omega) (by simp; omega)
  have hw2 : wr.i64 ((x.length : Int) - 1) = (x.length : Int) - 1 := wr_i64 (by omega) (by omega)
  have n1 := mkL_n (.mk 2 (bs [91, 93]) 0 []) (x ++ y)
  have n2 := mkL_n b x
  have hn0 : nT (.mk 2 (bs [91, 93]) 0 []) = 0 := nT_leaf _ _ _
  have o1 := mkL_ok (a := .mk 2 (bs [91, 93]) 0 []) ok_nil (l := x ++ y) (fun z hz => by rcases List.mem_append.1 hz with h | h; exact x5 z h; exact y5 z h)
  have o2 := mkL_ok (a := b) ob x5
  have hsame : q = true → mkL (x ++ y) (.mk 2 (bs [91, 93]) 0 []) = mkL x b := fun h => by rw [mkL_app, ← y6 h]
  have hxl : (x ++ y).length = x.length + y.length := by simp
  generalize mkL (x ++ y) (.mk 2 (bs [91, 93]) 0 []) = u at mk n1 o1 hsame
  generalize mkL x b = v at lo n2 o2 hsame
  have f1 := spec_TermOk (k := k) (x := u) (by omega) o1
  have f2 := impl_TermOk (k := k) (x := v) (by omega) o2
  have hcp := copyTerm (k := k) (x := b) (by omega) hb
  have hk2 : maxLen + 2 < k := Nat.lt_of_le_of_lt (Nat.add_le_add_left (by decide) maxLen) hk
  have z0 := z34 hk2
  have e1 : pspec_l21Make k (x ++ y) = some u := by
    unfold pspec_l21Make
    simp only [pspec_l03Atom, Option.bind_some, hw1, mk]
  have e2 : pimpl_listOf k x b = some v := by
    unfold pimpl_listOf
    simp only [hw2, lo, Option.bind_some]
  unfold pspec_JoinedLists pspec_l21JoinedListsRaw pimpl_JoinedLists
  simp only [x1, x2, y1, y2, e1, e2, f1, f2, hcp, Option.bind_some]
  rw [if_pos (by omega)]
  have hz : nT ((GTerm.mk 0 (bs []) 0 [], false) : GTerm × Bool).1 ≤ 1048576 := z34n
  cases p with
  | false => simp only [Bool.not_false, if_true, Option.bind_some, mk_gKind, mk_gName, mk_gNum, mk_gKids, z0]; exact ⟨_, rfl, rfl, hz⟩
  | true =>
    cases q with
    | false => simp only [Bool.not_false, Bool.not_true, Bool.false_eq_true, if_true, if_false, Option.bind_some, mk_gKind, mk_gName, mk_gNum, mk_gKids, z0]; exact ⟨_, rfl, rfl, hz⟩
    | true =>
      have huv := hsame rfl
      subst huv
      cases h5 : tOk u with
      | false => simp only [Bool.not_false, Bool.not_true, Bool.false_eq_true, if_true, if_false, Option.bind_some, mk_gKind, mk_gName, mk_gNum, mk_gKids, z0]; exact ⟨_, rfl, rfl, hz⟩
      | true =>
        have h6 : 1 + nT u ≤ 400 := by unfold tOk at h5; simp at h5; omega
        simp only [Bool.not_true, Bool.false_eq_true, if_false, Option.bind_some, eta, l34Term (k := k) (x := u) (by omega) (by omega)]
        exact ⟨_, rfl, rfl, by show nT u ≤ _; omega⟩

theorem d_same : @pimpl_JoinedLists_d = @pimpl_JoinedLists := by kernel_rfl

theorem law (x y : GTerm) (hx : x.ok) (hy : y.ok) : ∃ k, plaws_FnExactJoinedLists k x y = some true := by
  obtain ⟨k, hk⟩ : ∃ k, maxLen + 4 * nT x + 4 * nT y + 1099511627776 < k := ⟨_, Nat.lt_succ_self _⟩
  refine ⟨k, ?_⟩
  have hm : maxLen = 9223372036854775807 := maxLen_eq
  have hH : Huge = 1152921504606846976 := rfl
  have hw : maxLen + 2 * nT x + 2 < k := by omega
  have hw2 : maxLen + 2 * nT y + 2 < k := by omega
  unfold plaws_FnExactJoinedLists
  obtain ⟨r, e1, h2, h3⟩ := szTerm (k := k) hw hx 1048576 (by omega) (by unfold Small; omega)
  rw [e1]
  simp only [Option.bind_some]
  by_cases hr : r < 0
  · rw [if_pos (by simpa using hr)]
  rw [if_neg (by simpa using hr)]
  obtain ⟨r2, e12, h22, h32⟩ := szTerm (k := k) hw2 hy r (by omega) (by unfold Small; omega)
  rw [e12]
  simp only [Option.bind_some]
  by_cases hr2 : r2 < 0
  · rw [if_pos (by simpa using hr2)]
  rw [if_neg (by simpa using hr2)]
  have hn : nT x ≤ 1048576 := by omega
  have hny : nT y ≤ 1048576 := by omega
  have t0 := toTerm (k := k) hw hn
  have t1 : plaws_toTerm_d k x = some x := by rw [plaws_toTerm_dd]; exact t0
  have t02 := toTerm (k := k) hw2 hny
  have t12 : plaws_toTerm_d k y = some y := by rw [plaws_toTerm_dd]; exact t02
  obtain ⟨p, e2, e3, hn2⟩ := same (by omega) hx hy (k := k) (by omega)
  have e4 : pimpl_JoinedLists_d k x y = some p := by rw [d_same]; exact e3
  obtain ⟨u, c, a1, a4, a5⟩ := markTerm (k := k) (x := x) hw 1 (by omega) (by omega)
  obtain ⟨u2, c2, a12, a42, a52⟩ := markTerm (k := k) (x := y) hw2 c (by omega) (by omega)
  obtain ⟨z, d, b1, b2, b3, b4, b5⟩ := markTerm (k := k) (x := p.1) (by omega) 1 (by omega) (by omega)
  have q1 := eqTerm (k := k) (x := p.1) (by omega) (by omega)
  have q2 := eqTerm (k := k) (x := x) hw (by omega)
  have q3 := eqTerm (k := k) (x := y) hw2 (by omega)
  have hc : ∀ c : Int, 1 ≤ c → (decide (c < 0)) = false := fun c h => by simpa using (by omega : 0 ≤ c)
  simp only [t0, t1, t02, t12, e2, e3, e4, eta, q1, q2, q3, a1, a12, b1, b2, hc c2 (by omega), hc d b4, Option.bind_some, Bool.not_true, Bool.false_eq_true, if_false, bne_self_eq_false, beq_self_eq_true]
end FnExactJoinedLists
end Go.Proofs.Ytbfkmgenokhkgaa

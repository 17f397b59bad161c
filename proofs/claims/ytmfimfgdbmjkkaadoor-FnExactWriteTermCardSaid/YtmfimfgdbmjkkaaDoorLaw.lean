/- The law, plainly. -/
import Derived.Test.YtmfimfgdbmjkkaaDoorFn
set_option linter.unusedVariables false
set_option linter.unusedSimpArgs false
namespace Go.Proofs.YtmfimfgdbmjkkaaDoor
open Go.RowKit Go.Bv
namespace FnExactWriteTerm
mutual
/-- How many terms stand in a term. -/
def nT : GTerm → Nat
  | .mk _ _ _ l => nTs l
def nTs : List GTerm → Nat
  | [] => 0
  | x :: l => 1 + nT x + nTs l
end
theorem nTs_eq : ∀ l : List GTerm, nTs l = nsum nT l
  | [] => by rw [nTs]; rfl
  | x :: l => by rw [nTs, nsum, nTs_eq l]
theorem nT_kids (x : GTerm) : nT x = nsum nT x.gKids := by
  cases x with
  | mk a b c l => rw [nT, nTs_eq]; rfl

theorem ok_kids {x : GTerm} (h : x.ok) : okL GTerm.ok x.gKids := by cases h with | mk a b c l h1 h2 h3 h4 h5 => exact ⟨h4, h5⟩
theorem ok_name {x : GTerm} (h : x.ok) : okFs x.gName := by cases h with | mk a b c l h1 h2 h3 h4 h5 => exact h2
theorem ok_kind {x : GTerm} (h : x.ok) : okI .i64 x.gKind := by cases h with | mk a b c l h1 h2 h3 h4 h5 => exact h1
theorem ok_num {x : GTerm} (h : x.ok) : okI .i64 x.gNum := by cases h with | mk a b c l h1 h2 h3 h4 h5 => exact h3

theorem mk_gKind (a : Int) (b : ByteArray) (c : Int) (l : List GTerm) : (GTerm.mk a b c l).gKind = a := rfl
theorem mk_gName (a : Int) (b : ByteArray) (c : Int) (l : List GTerm) : (GTerm.mk a b c l).gName = b := rfl
theorem mk_gNum (a : Int) (b : ByteArray) (c : Int) (l : List GTerm) : (GTerm.mk a b c l).gNum = c := rfl
theorem mk_gKids (a : Int) (b : ByteArray) (c : Int) (l : List GTerm) : (GTerm.mk a b c l).gKids = l := rfl
theorem szBoth : ∀ N k : Nat,
    (∀ l, maxLen + 2 * nsum nT l + 1 < k → nsum nT l ≤ N → okL GTerm.ok l → ∀ b : Int, 0 ≤ b → b ≤ Small → ∃ r, plaws_szTermS k l b = some r ∧ -1 ≤ r ∧ (0 ≤ r → r + (nsum nT l : Int) ≤ b)) ∧
    (∀ x, maxLen + 2 * nT x + 2 < k → nT x ≤ N → x.ok → ∀ b : Int, 0 ≤ b → b ≤ Small → ∃ r, plaws_szTerm k x b = some r ∧ -1 ≤ r ∧ (0 ≤ r → r + (nT x : Int) ≤ b))
  | N, 0 => ⟨fun l h => by omega, fun x h => by omega⟩
  | N, k + 1 => by
    obtain ⟨ih1, ih2⟩ := szBoth N k
    refine ⟨?_, ?_⟩
    · intro l hw hN hl b h0 h1
      exact sz2 (f := plaws_szTerm k) (L := plaws_szTermS_L1 k (plaws_szTerm k) (plaws_szTermS k) l) hl.1 (fun x hx b h0 h1 => by have := nsum_mem (n := nT) hx; exact ih2 x (by omega) (by omega) (hl.2 x hx) b h0 h1) (fun m b i => rfl) (by omega) b h0 h1
    · intro x hw hN hx b h0 h1
      have hn := ok_name hx
      unfold okFs at hn
      have h1' := h1
      unfold Small at h1'
      rw [maxLen_eq] at hn
      have hk := nT_kids x
      unfold plaws_szTerm
      rw [wr_i64 (by omega) (by omega)]
      split
      · exact ⟨_, rfl, by omega, by omega⟩
      · rename_i h
        simp at h
        obtain ⟨r, h2, h3, h4⟩ := ih1 x.gKids (by omega) (by omega) (ok_kids hx) (b - (x.gName.size : Int)) (by omega) (by unfold Small; omega)
        rw [h2]
        simp only [Option.bind_some]
        split
        · exact ⟨_, rfl, by omega, by omega⟩
        · exact ⟨_, rfl, h3, by omega⟩
theorem szTermS {k : Nat} {l : List GTerm} (hw : maxLen + 2 * nsum nT l + 2 < k) (hl : okL GTerm.ok l) (b : Int) (h0 : 0 ≤ b) (h1 : b ≤ Small) : ∃ r, plaws_szTermS k l b = some r ∧ -1 ≤ r ∧ (0 ≤ r → r + (nsum nT l : Int) ≤ b) :=
  (szBoth (nsum nT l) k).1 l (by omega) (Nat.le_refl _) hl b h0 h1
theorem szTerm {k : Nat} {x : GTerm} (hw : maxLen + 2 * nT x + 2 < k) (hx : x.ok) (b : Int) (h0 : 0 ≤ b) (h1 : b ≤ Small) : ∃ r, plaws_szTerm k x b = some r ∧ -1 ≤ r ∧ (0 ≤ r → r + (nT x : Int) ≤ b) :=
  (szBoth (nT x) k).2 x hw (Nat.le_refl _) hx b h0 h1

theorem toBoth : ∀ k : Nat, (∀ l, maxLen + 2 * nsum nT l + 1 < k → nsum nT l ≤ 1048576 → plaws_toTermS k l = some l) ∧ (∀ x, maxLen + 2 * nT x + 2 < k → nT x ≤ 1048576 → plaws_toTerm k x = some x)
  | 0 => ⟨fun l h => by omega, fun x h => by omega⟩
  | k + 1 => by
    obtain ⟨ih1, ih2⟩ := toBoth k
    refine ⟨?_, ?_⟩
    · intro l hw hl
      have := nsum_len nT l
      have h := to2 (f := plaws_toTerm k) (L := plaws_toTermS_L1 k (plaws_toTerm k) (plaws_toTermS k) l) (by omega) (fun x hx => by have := nsum_mem (n := nT) hx; exact ih2 x (by omega) (by omega)) (fun m i o => rfl) (k := k) (by omega) (GTerm.mk 0 (bs []) 0 [])
      unfold plaws_toTermS
      rw [if_pos h.1, h.2]; rfl
    · intro x hw hx
      have hk := nT_kids x
      unfold plaws_toTerm
      rw [ih1 x.gKids (by omega) (by omega)]
      cases x; rfl
theorem toTermS {k : Nat} {l : List GTerm} (hw : maxLen + 2 * nsum nT l + 2 < k) (hl : nsum nT l ≤ 1048576) : plaws_toTermS k l = some l := (toBoth k).1 l (by omega) hl
theorem toTerm {k : Nat} {x : GTerm} (hw : maxLen + 2 * nT x + 2 < k) (hl : nT x ≤ 1048576) : plaws_toTerm k x = some x := (toBoth k).2 x hw hl

theorem eqBoth : ∀ k : Nat, (∀ l, maxLen + 2 * nsum nT l + 1 < k → nsum nT l ≤ Huge → plaws_eqTermS k l l = some true) ∧ (∀ x, maxLen + 2 * nT x + 2 < k → nT x ≤ Huge → plaws_eqTerm k x x = some true)
  | 0 => ⟨fun l h => by omega, fun x h => by omega⟩
  | k + 1 => by
    obtain ⟨ih1, ih2⟩ := eqBoth k
    refine ⟨?_, ?_⟩
    · intro l hw hl
      have := nsum_len nT l
      exact eq2 (f := plaws_eqTerm k) (L := plaws_eqTermS_L1 k (plaws_eqTerm k) (plaws_eqTermS k) l l) (by omega) (fun x hx => by have := nsum_mem (n := nT) hx; exact ih2 x (by omega) (by omega)) (fun m i => rfl) (by omega)
    · intro x hw hx
      have hk := nT_kids x
      unfold plaws_eqTerm
      rw [ih1 x.gKids (by omega) (by omega)]
      simp [sEq_refl]
theorem eqTermS {k : Nat} {l : List GTerm} (hw : maxLen + 2 * nsum nT l + 2 < k) (hl : nsum nT l ≤ Huge) : plaws_eqTermS k l l = some true := (eqBoth k).1 l (by omega) hl
theorem eqTerm {k : Nat} {x : GTerm} (hw : maxLen + 2 * nT x + 2 < k) (hl : nT x ≤ Huge) : plaws_eqTerm k x x = some true := (eqBoth k).2 x hw hl

/-- Is it within these bounds? -/
def inR (x a b : Int) : Bool := decide (a ≤ x ∧ x ≤ b)
theorem inR_t {x a b : Int} (h : a ≤ x ∧ x ≤ b) : inR x a b = true := decide_eq_true h
theorem inR_f {x a b : Int} (h : ¬ (a ≤ x ∧ x ≤ b)) : inR x a b = false := decide_eq_false h

theorem l01In (k : Nat) (x a b : Int) : pspec_l01In k x a b = some (inR x a b) := by
  unfold pspec_l01In inR
  by_cases h : a ≤ x
  · rw [if_pos (by simpa using h)]; simp [h]
  · rw [if_neg (by simpa using h)]; simp [h]

theorem within (k : Nat) (x a b : Int) : pimpl_within k x a b = some (inR x a b) := by
  unfold pimpl_within inR
  by_cases h : a ≤ x
  · rw [if_pos (by simpa using h)]; simp [h]
  · rw [if_neg (by simpa using h)]; simp [h]
theorem bt_le (s : ByteArray) (i : Int) : 0 ≤ bt s i ∧ bt s i ≤ 255 := by
  unfold bt
  have : ((s[i.toNat]?).getD 0).toNat < 256 := ((s[i.toNat]?).getD 0).toNat_lt
  omega
/-- A byte that a name may have. -/
def gb (s : ByteArray) (i : Nat) : Prop := 33 ≤ bt s (i : Int) ∧ bt s (i : Int) ≤ 126 ∧ bt s (i : Int) ≠ 39 ∧ bt s (i : Int) ≠ 34
instance (s : ByteArray) (i : Nat) : Decidable (gb s i) := by unfold gb; infer_instance
/-- A name. -/
def nmOk (s : ByteArray) : Prop := (∀ i, i < s.size → gb s i) ∧ 1 ≤ s.size ∧ s.size ≤ 20
instance (s : ByteArray) : Decidable (nmOk s) := by unfold nmOk; infer_instance

theorem l03Name_L1 (k : Nat) (s : ByteArray) (hs : s.size ≤ maxLen) : ∀ (m n : Nat), n ≤ s.size → s.size - n < m →
    ∃ o, pspec_l03Name_L1 k s m (n : Int) = some o ∧ (match o with | .ret r => r = false ∧ ∃ i, i < s.size ∧ ¬ gb s i | .done _ => ∀ i, n ≤ i → i < s.size → gb s i)
  | 0, n, h1, h2 => by omega
  | m + 1, n, h1, h2 => by
    unfold pspec_l03Name_L1
    by_cases hlt : n < s.size
    · have hg : 0 ≤ (n : Int) ∧ (n : Int).toNat < s.size := ⟨by omega, by simpa using hlt⟩
      have bad : ∀ b : Prop, (gb s n → ¬ b) → b → ∃ o, (some (Out.ret false) : Option (Out Bool Unit)) = some o ∧ (match o with | .ret r => r = false ∧ ∃ i, i < s.size ∧ ¬ gb s i | .done _ => ∀ i, n ≤ i → i < s.size → gb s i) :=
        fun b h hb => ⟨_, rfl, rfl, n, hlt, fun h' => h h' hb⟩
      rw [if_pos (by simpa using hlt), if_pos hg]
      by_cases c1 : bt s (n : Int) < 33
      · rw [if_pos (by simpa using c1)]; exact bad _ (fun h => by have := h.1; omega) c1
      rw [if_neg (by simpa using c1), if_pos hg]
      by_cases c2 : bt s (n : Int) > 126
      · rw [if_pos (by simpa using c2)]; exact bad _ (fun h => by have := h.2.1; omega) c2
      rw [if_neg (by simpa using c2), if_pos hg]
      by_cases c3 : bt s (n : Int) = 39
      · rw [if_pos (by simpa using c3)]; exact bad _ (fun h => h.2.2.1) c3
      rw [if_neg (by simpa using c3), if_pos hg]
      by_cases c4 : bt s (n : Int) = 34
      · rw [if_pos (by simpa using c4)]; exact bad _ (fun h => h.2.2.2) c4
      rw [if_neg (by simpa using c4), wr_succ hlt hs]
      obtain ⟨o, h3, h4⟩ := l03Name_L1 k s hs m (n + 1) (by omega) (by omega)
      refine ⟨o, h3, ?_⟩
      cases o with
      | ret r => exact h4
      | done u =>
        intro i hi1 hi2
        by_cases e : i = n
        · subst e; exact ⟨by omega, by omega, c3, c4⟩
        · exact h4 i (by omega) hi2
    · rw [if_neg (by simpa using hlt)]
      exact ⟨_, rfl, fun i h3 h4 => by omega⟩

theorem nameOk_L1 (k : Nat) (s : ByteArray) (hs : s.size ≤ maxLen) : ∀ (m n : Nat), n ≤ s.size → s.size - n < m →
    ∃ o, pimpl_nameOk_L1 k s m (n : Int) = some o ∧ (match o with | .ret r => r = false ∧ ∃ i, i < s.size ∧ ¬ gb s i | .done _ => ∀ i, n ≤ i → i < s.size → gb s i)
  | 0, n, h1, h2 => by omega
  | m + 1, n, h1, h2 => by
    unfold pimpl_nameOk_L1
    by_cases hlt : n < s.size
    · have hg : 0 ≤ (n : Int) ∧ (n : Int).toNat < s.size := ⟨by omega, by simpa using hlt⟩
      have hb := bt_le s (n : Int)
      have bad : ∀ b : Prop, (gb s n → ¬ b) → b → ∃ o, (some (Out.ret false) : Option (Out Bool Unit)) = some o ∧ (match o with | .ret r => r = false ∧ ∃ i, i < s.size ∧ ¬ gb s i | .done _ => ∀ i, n ≤ i → i < s.size → gb s i) :=
        fun b h hb => ⟨_, rfl, rfl, n, hlt, fun h' => h h' hb⟩
      rw [if_pos (by simpa using hlt), if_pos hg, within, wr_i64 (by omega) (by omega)]
      simp only [Option.bind_some]
      by_cases c1 : 33 ≤ bt s (n : Int) ∧ bt s (n : Int) ≤ 126
      · rw [inR_t c1, if_neg (by simp), if_pos hg]
        by_cases c3 : bt s (n : Int) = 39
        · rw [if_pos (by simpa using c3)]; exact bad _ (fun h => h.2.2.1) c3
        rw [if_neg (by simpa using c3), if_pos hg]
        by_cases c4 : bt s (n : Int) = 34
        · rw [if_pos (by simpa using c4)]; exact bad _ (fun h => h.2.2.2) c4
        rw [if_neg (by simpa using c4), wr_succ hlt hs]
        obtain ⟨o, h3, h4⟩ := nameOk_L1 k s hs m (n + 1) (by omega) (by omega)
        refine ⟨o, h3, ?_⟩
        cases o with
        | ret r => exact h4
        | done u =>
          intro i hi1 hi2
          by_cases e : i = n
          · subst e; exact ⟨by omega, by omega, c3, c4⟩
          · exact h4 i (by omega) hi2
      · rw [inR_f c1, if_pos (by simp)]
        exact bad _ (fun h => by have := h.1; have := h.2.1; omega) c1
    · rw [if_neg (by simpa using hlt)]
      exact ⟨_, rfl, fun i h3 h4 => by omega⟩

theorem nm_of {s : ByteArray} (h : ∀ i, 0 ≤ i → i < s.size → gb s i) : inR (s.size : Int) 1 20 = decide (nmOk s) := by
  unfold inR
  rw [decide_eq_decide]
  unfold nmOk
  constructor
  · intro h1; exact ⟨fun i hi => h i (by omega) hi, by omega, by omega⟩
  · intro h1; obtain ⟨_, h5, h6⟩ := h1; omega

theorem l03Name {k : Nat} {s : ByteArray} (hs : s.size ≤ maxLen) (hk : maxLen < k) : pspec_l03Name k s = some (decide (nmOk s)) := by
  unfold pspec_l03Name
  obtain ⟨o, h1, h2⟩ := l03Name_L1 k s hs k 0 (by omega) (by omega)
  rw [show ((0 : Nat) : Int) = 0 from rfl] at h1
  rw [h1]
  cases o with
  | ret r =>
    obtain ⟨rfl, i, h3, h4⟩ := h2
    have : ¬ nmOk s := fun h => h4 (h.1 i h3)
    simp [this]
  | done u =>
    simp only [Option.bind_some]
    rw [l01In]
    simp only [Option.bind_some]
    rw [nm_of h2]

theorem nameOk {k : Nat} {s : ByteArray} (hs : s.size ≤ maxLen) (hk : maxLen < k) : pimpl_nameOk k s = some (decide (nmOk s)) := by
  unfold pimpl_nameOk
  obtain ⟨o, h1, h2⟩ := nameOk_L1 k s hs k 0 (by omega) (by omega)
  rw [show ((0 : Nat) : Int) = 0 from rfl] at h1
  rw [h1]
  cases o with
  | ret r =>
    obtain ⟨rfl, i, h3, h4⟩ := h2
    have : ¬ nmOk s := fun h => h4 (h.1 i h3)
    simp [this]
  | done u =>
    simp only [Option.bind_some]
    rw [within]
    simp only [Option.bind_some]
    rw [nm_of h2]

/-- The head of a term is as it should be. -/
def one (x : GTerm) : Bool :=
  if x.gKind = 1 then inR x.gNum 0 99999 && (sEq x.gName (bs []) && ((x.gKids.length : Int) == 0))
  else if x.gKind = 2 then decide (nmOk x.gName) && ((x.gNum == 0) && ((x.gKids.length : Int) == 0))
  else if x.gKind = 3 then inR x.gNum (-999999999) 999999999 && (sEq x.gName (bs []) && ((x.gKids.length : Int) == 0))
  else if x.gKind = 4 then decide (nmOk x.gName) && ((x.gNum == 0) && inR (x.gKids.length : Int) 1 5)
  else false
mutual
/-- A term, at a depth, is as it should be. -/
def gT : Int → GTerm → Bool
  | d, .mk a b c l => decide (d ≤ 40) && (one (.mk a b c l) && gTs (d + 1) l)
def gTs : Int → List GTerm → Bool
  | _, [] => true
  | d, x :: l => gT d x && gTs d l
end
theorem gT_eq (d : Int) (x : GTerm) : gT d x = (decide (d ≤ 40) && (one x && gTs (d + 1) x.gKids)) := by
  cases x with
  | mk a b c l => rw [gT]; rfl
theorem gTs_drop {d : Int} {l : List GTerm} {j : Nat} (h : j < l.length) : gTs d (l.drop j) = (gT d l[j] && gTs d (l.drop (j + 1))) := by
  rw [List.drop_eq_getElem_cons h, gTs]
theorem ns_drop {l : List GTerm} {j : Nat} (h : j < l.length) : nsum nT (l.drop j) = 1 + nT l[j] + nsum nT (l.drop (j + 1)) := by
  rw [List.drop_eq_getElem_cons h, nsum]

theorem l03One {k : Nat} {x : GTerm} (hx : x.ok) (hk : maxLen < k) : pspec_l03One k x = some (one x) := by
  have hn := l03Name (k := k) (s := x.gName) (ok_name hx) hk
  unfold pspec_l03One one
  simp only [hn, l01In, Option.bind_some]
  by_cases c1 : x.gKind = 1
  · rw [if_pos (by simpa using c1), if_pos c1]
    cases inR x.gNum 0 99999 <;> cases sEq x.gName (bs []) <;> simp
  rw [if_neg (by simpa using c1), if_neg c1]
  by_cases c2 : x.gKind = 2
  · rw [if_pos (by simpa using c2), if_pos c2]
    cases decide (nmOk x.gName) <;> by_cases h : x.gNum = 0 <;> simp [h]
  rw [if_neg (by simpa using c2), if_neg c2]
  by_cases c3 : x.gKind = 3
  · rw [if_pos (by simpa using c3), if_pos c3]
    cases inR x.gNum (-999999999) 999999999 <;> cases sEq x.gName (bs []) <;> simp
  rw [if_neg (by simpa using c3), if_neg c3]
  by_cases c4 : x.gKind = 4
  · rw [if_pos (by simpa using c4), if_pos c4]
    cases decide (nmOk x.gName) <;> by_cases h : x.gNum = 0 <;> simp [h]
  · rw [if_neg (by simpa using c4), if_neg c4]

/-- What is left of so many terms. -/
def leftOf (v left : Int) (n : Nat) : Prop := -1 ≤ v ∧ (0 ≤ v ↔ (n : Int) ≤ left) ∧ (0 ≤ v → v = left - (n : Int))
theorem l03Count_L1 {k : Nat} {x : GTerm} {f : GTerm → Int → Option Int} (hx : x.gKids.length ≤ maxLen) (hf : ∀ y ∈ x.gKids, ∀ b, 0 ≤ b → b ≤ 401 → ∃ v, f y b = some v ∧ leftOf v b (1 + nT y)) :
    ∀ (m j : Nat) (b : Int), j ≤ x.gKids.length → x.gKids.length - j < m → -1 ≤ b → b ≤ 401 →
      ∃ v, pspec_l03Count_L1 k f x m b (j : Int) = some (.done v) ∧ ((b = -1 ∧ v = -1) ∨ (0 ≤ b ∧ leftOf v b (nsum nT (x.gKids.drop j))))
  | 0, j, b, h1, h2, h3, h4 => by omega
  | m + 1, j, b, h1, h2, h3, h4 => by
    unfold pspec_l03Count_L1
    by_cases hlt : j < x.gKids.length
    · rw [if_pos (by simpa using hlt)]
      by_cases hb : 0 ≤ b
      · rw [if_pos (by simpa using hb), at_lt hlt]
        simp only [Option.bind_some]
        obtain ⟨v, e, g1, g2, g3⟩ := hf _ (List.getElem_mem hlt) b hb h4
        rw [e]
        simp only [Option.bind_some]
        rw [wr_succ hlt hx]
        obtain ⟨u, e2, h5⟩ := l03Count_L1 (k := k) hx hf m (j + 1) v (by omega) (by omega) g1 (by by_cases h : 0 ≤ v <;> omega)
        refine ⟨u, e2, .inr ⟨hb, ?_⟩⟩
        rw [ns_drop hlt]
        rcases h5 with ⟨rfl, rfl⟩ | ⟨h6, h7, h8, h9⟩
        · refine ⟨by omega, ⟨fun h => by omega, fun h => by have := g2.2 (by omega); omega⟩, fun h => by omega⟩
        · have := g3 h6
          have := g2.1 h6
          refine ⟨h7, ⟨fun h => by have := h8.1 h; omega, fun h => h8.2 (by omega)⟩, fun h => by have := h9 h; omega⟩
      · rw [if_neg (by simpa using hb)]
        exact ⟨b, rfl, .inl ⟨by omega, by omega⟩⟩
    · rw [if_neg (by simpa using hlt)]
      rw [List.drop_of_length_le (by omega)]
      by_cases hb : 0 ≤ b
      · exact ⟨b, rfl, .inr ⟨hb, h3, by simp only [nsum]; omega, fun _ => by simp only [nsum]; omega⟩⟩
      · exact ⟨b, rfl, .inl ⟨by omega, by omega⟩⟩

theorem l03Count : ∀ (k : Nat) (x : GTerm), maxLen + 2 * nT x + 2 < k → x.ok → ∀ b : Int, 0 ≤ b → b ≤ 401 → ∃ v, pspec_l03Count k x b = some v ∧ leftOf v b (1 + nT x)
  | 0, x, h => by omega
  | k + 1, x, hw => by
    intro hx b h0 h1
    have hn := nT_kids x
    unfold pspec_l03Count
    rw [wr_i64 (by omega) (by omega)]
    obtain ⟨v, e, h⟩ := l03Count_L1 (k := k) (x := x) (ok_kids hx).1 (fun y hy b h0 h1 => by have := nsum_mem (n := nT) hy; exact l03Count k y (by omega) ((ok_kids hx).2 y hy) b h0 h1) k 0 (b - 1) (by omega) (by have := (ok_kids hx).1; omega) (by omega) (by omega)
    rw [show ((0 : Nat) : Int) = 0 from rfl] at e
    rw [e]
    refine ⟨v, rfl, ?_⟩
    rw [List.drop_zero, ← hn] at h
    rcases h with ⟨h2, rfl⟩ | ⟨h2, h3, h4, h5⟩
    · exact ⟨by omega, ⟨fun h => by omega, fun h => by omega⟩, fun h => by omega⟩
    · exact ⟨h3, ⟨fun h => by have := h4.1 h; omega, fun h => h4.2 (by omega)⟩, fun h => by have := h5 h; omega⟩

theorem l03Right_L1 {k : Nat} {x : GTerm} {d : Int} {f : GTerm → Int → Option Bool} (hx : x.gKids.length ≤ maxLen) (hd : wr.i64 (d + 1) = d + 1) (hf : ∀ y ∈ x.gKids, f y (d + 1) = some (gT (d + 1) y)) :
    ∀ (m j : Nat), j ≤ x.gKids.length → x.gKids.length - j < m → pspec_l03Right_L1 k f x d m (j : Int) = some (if gTs (d + 1) (x.gKids.drop j) then .done () else .ret false)
  | 0, j, h1, h2 => by omega
  | m + 1, j, h1, h2 => by
    unfold pspec_l03Right_L1
    by_cases hlt : j < x.gKids.length
    · rw [if_pos (by simpa using hlt), at_lt hlt, hd]
      simp only [Option.bind_some, hf _ (List.getElem_mem hlt)]
      rw [gTs_drop hlt]
      cases hg : gT (d + 1) x.gKids[j] with
      | false => simp
      | true =>
        rw [if_neg (by simp), wr_succ hlt hx, l03Right_L1 hx hd hf m (j + 1) (by omega) (by omega)]
        simp
    · rw [if_neg (by simpa using hlt), List.drop_of_length_le (by omega), gTs]; rfl

theorem l03Right : ∀ (k : Nat) (x : GTerm), maxLen + 2 * nT x + 2 < k → x.ok → ∀ d : Int, 0 ≤ d → d ≤ 41 → pspec_l03Right k x d = some (gT d x)
  | 0, x, h => by omega
  | k + 1, x, hw => by
    intro hx d h0 h1
    have hn := nT_kids x
    unfold pspec_l03Right
    rw [gT_eq]
    by_cases hd : d > 40
    · rw [if_pos (by simpa using hd)]; simp; omega
    · rw [if_neg (by simpa using hd), l03One hx (by omega)]
      simp only [Option.bind_some]
      cases h1 : one x with
      | false => simp
      | true =>
        rw [if_neg (by simp)]
        have e := l03Right_L1 (k := k) (x := x) (d := d) (ok_kids hx).1 (wr_i64 (by omega) (by omega)) (fun y hy => by have := nsum_mem (n := nT) hy; exact l03Right k y (by omega) ((ok_kids hx).2 y hy) (d + 1) (by omega) (by omega)) k 0 (by omega) (by have := (ok_kids hx).1; omega)
        rw [show ((0 : Nat) : Int) = 0 from rfl, List.drop_zero] at e
        rw [e]
        cases gTs (d + 1) x.gKids <;> simp <;> omega

/-- A term is right. -/
def tOk (x : GTerm) : Bool := decide (1 + nT x ≤ 400) && gT 1 x
theorem spec_TermOk {k : Nat} {x : GTerm} (hw : maxLen + 2 * nT x + 2 < k) (hx : x.ok) : pspec_TermOk k x = some (tOk x) := by
  unfold pspec_TermOk tOk
  obtain ⟨v, e, h1, h2, h3⟩ := l03Count k x hw hx 400 (by omega) (by omega)
  rw [e]
  simp only [Option.bind_some]
  by_cases hv : 0 ≤ v
  · rw [if_pos (by simpa using hv), l03Right k x hw hx 1 (by omega) (by omega)]
    have := h2.1 hv
    simp; omega
  · rw [if_neg (by simpa using hv)]
    have : ¬ (1 + nT x ≤ 400) := fun h => hv (h2.2 (by omega))
    simp [this]

/-- What the program counts. -/
def cnt (d : Int) (x : GTerm) : Int := if gT d x && decide (1 + nT x ≤ 400) then ((1 + nT x : Nat) : Int) else 401
theorem sized_L2 {k : Nat} {x : GTerm} {d : Int} {f : GTerm → Int → Option Int} (hx : x.gKids.length ≤ maxLen) (hd : wr.i64 (d + 1) = d + 1) (hf : ∀ y ∈ x.gKids, f y (d + 1) = some (cnt (d + 1) y)) :
    ∀ (m j : Nat) (b : Int), j ≤ x.gKids.length → x.gKids.length - j < m → 1 ≤ b → b ≤ 400 →
      pimpl_sized_L2 k f x d m b (j : Int) = some (if gTs (d + 1) (x.gKids.drop j) && decide (b + (nsum nT (x.gKids.drop j) : Int) ≤ 400) then .done (b + (nsum nT (x.gKids.drop j) : Int)) else .ret 401)
  | 0, j, b, h1, h2, h3, h4 => by omega
  | m + 1, j, b, h1, h2, h3, h4 => by
    unfold pimpl_sized_L2
    by_cases hlt : j < x.gKids.length
    · rw [if_pos (by simpa using hlt), at_lt hlt, hd]
      simp only [Option.bind_some, hf _ (List.getElem_mem hlt)]
      rw [gTs_drop hlt, ns_drop hlt, wr_succ hlt hx]
      by_cases hg : gT (d + 1) x.gKids[j] = true ∧ 1 + nT x.gKids[j] ≤ 400
      · have hc : cnt (d + 1) x.gKids[j] = ((1 + nT x.gKids[j] : Nat) : Int) := by unfold cnt; rw [if_pos (by simpa using hg)]
        rw [hc, wr_i64 (by omega) (by omega)]
        by_cases hs : b + ((1 + nT x.gKids[j] : Nat) : Int) > 400
        · rw [if_pos (by simpa using hs), if_neg]
          simp only [Bool.and_eq_true, decide_eq_true_eq, not_and]
          intro _; omega
        · rw [if_neg (by simpa using hs), sized_L2 hx hd hf m (j + 1) _ (by omega) (by omega) (by omega) (by omega), hg.1, Bool.true_and]
          have e1 : b + ((1 + nT x.gKids[j] : Nat) : Int) + (nsum nT (x.gKids.drop (j + 1)) : Int) = b + ((1 + nT x.gKids[j] + nsum nT (x.gKids.drop (j + 1)) : Nat) : Int) := by omega
          rw [e1]
      · have hc : cnt (d + 1) x.gKids[j] = 401 := by unfold cnt; rw [if_neg (by simpa using hg)]
        rw [hc, wr_i64 (by omega) (by omega), if_pos (by simp; omega), if_neg]
        simp only [Bool.and_eq_true, decide_eq_true_eq, not_and]
        intro h5
        have h6 : ¬ (1 + nT x.gKids[j] ≤ 400) := fun h => hg ⟨h5.1, h⟩
        omega
    · rw [if_neg (by simpa using hlt), List.drop_of_length_le (by omega), gTs, if_pos (by simp only [nsum]; simp; omega)]
      simp [nsum]

theorem sized : ∀ (k : Nat) (x : GTerm), maxLen + 2 * nT x + 2 < k → x.ok → ∀ d : Int, 0 ≤ d → d ≤ 41 → pimpl_sized k x d = some (cnt d x)
  | 0, x, h => by omega
  | k + 1, x, hw => by
    intro hx d h0 h1
    have hn := nT_kids x
    have hnm := nameOk (k := k) (s := x.gName) (ok_name hx) (by omega)
    have hJ : d ≤ 40 → one x = true → pimpl_sized_J1 k (pimpl_sized k) x d = some (cnt d x) := by
      intro hd h1
      unfold pimpl_sized_J1 cnt
      have e := sized_L2 (k := k) (x := x) (d := d) (ok_kids hx).1 (wr_i64 (by omega) (by omega)) (fun y hy => by have := nsum_mem (n := nT) hy; exact sized k y (by omega) ((ok_kids hx).2 y hy) (d + 1) (by omega) (by omega)) k 0 1 (by omega) (by have := (ok_kids hx).1; omega) (by omega) (by omega)
      rw [show ((0 : Nat) : Int) = 0 from rfl, List.drop_zero, ← hn] at e
      rw [e, gT_eq, h1, Bool.true_and, decide_eq_true hd, Bool.true_and]
      have e2 : decide (1 + (nT x : Int) ≤ 400) = decide (1 + nT x ≤ 400) := by rw [decide_eq_decide]; omega
      rw [e2]
      split
      · simp
      · simp
    have hbad : one x = false → (401 : Int) = cnt d x := by
      intro h1; unfold cnt; rw [gT_eq, h1]; simp
    unfold pimpl_sized
    by_cases hd : d > 40
    · rw [if_pos (by simpa using hd)]
      unfold cnt; rw [gT_eq, decide_eq_false (show ¬ d ≤ 40 by omega)]; simp
    have hJ' := hJ (by omega)
    rw [if_neg (by simpa using hd)]
    simp only [hnm, within, Option.bind_some]
    generalize pimpl_sized_J1 k (pimpl_sized k) x d = J at hJ' ⊢
    generalize cnt d x = C at hJ' hbad ⊢
    have hlen : ((x.gKids.length : Int) > 0) ↔ ¬ ((x.gKids.length : Int) = 0) := by omega
    unfold one at hJ' hbad
    by_cases c1 : x.gKind = 1
    · rw [if_pos (by simpa using c1)]
      rw [if_pos c1] at hJ' hbad
      cases h2 : inR x.gNum 0 99999 <;> cases h3 : sEq x.gName (bs []) <;> by_cases h4 : (x.gKids.length : Int) = 0 <;> simp_all
    rw [if_neg (by simpa using c1)]
    rw [if_neg c1] at hJ' hbad
    by_cases c2 : x.gKind = 2
    · rw [if_pos (by simpa using c2)]
      rw [if_pos c2] at hJ' hbad
      cases h2 : decide (nmOk x.gName) <;> by_cases h3 : x.gNum = 0 <;> by_cases h4 : (x.gKids.length : Int) = 0 <;> simp_all
    rw [if_neg (by simpa using c2)]
    rw [if_neg c2] at hJ' hbad
    by_cases c3 : x.gKind = 3
    · rw [if_pos (by simpa using c3)]
      rw [if_pos c3] at hJ' hbad
      cases h2 : inR x.gNum (-999999999) 999999999 <;> cases h3 : sEq x.gName (bs []) <;> by_cases h4 : (x.gKids.length : Int) = 0 <;> simp_all
    rw [if_neg (by simpa using c3)]
    rw [if_neg c3] at hJ' hbad
    by_cases c4 : x.gKind = 4
    · rw [if_pos (by simpa using c4)]
      rw [if_pos c4] at hJ' hbad
      cases h2 : decide (nmOk x.gName) <;> by_cases h3 : x.gNum = 0 <;> cases h4 : inR (x.gKids.length : Int) 1 5 <;> simp_all
    · rw [if_neg (by simpa using c4)]
      rw [if_neg c4] at hbad
      rw [hbad rfl]

theorem impl_TermOk {k : Nat} {x : GTerm} (hw : maxLen + 2 * nT x + 2 < k) (hx : x.ok) : pimpl_TermOk k x = some (tOk x) := by
  unfold pimpl_TermOk tOk
  rw [sized k x hw hx 1 (by omega) (by omega)]
  simp only [Option.bind_some]
  unfold cnt
  cases gT 1 x <;> by_cases h : 1 + nT x ≤ 400 <;> simp [h] <;> omega
/-! signs of a name -/
theorem obs {α β : Type} {a : α} {f : α → Option β} : (some a).bind f = f a := by
  cases h : f a with
  | none => exact h
  | some b => exact h
def symb (b : Int) : Bool := decide (Lib.indexByte (bs [43, 45, 42, 47, 92, 94, 60, 62, 61, 126, 58, 46, 63, 64, 35, 38, 36]).data.toList b.toNat.toUInt8 ≥ 0)
def endb (b : Int) : Bool := decide (Lib.indexByte (bs [32, 9, 10, 37]).data.toList b.toNat.toUInt8 ≥ 0)
def markb (b : Int) : Bool := decide (Lib.indexByte (bs [40, 41, 91, 93, 44, 124]).data.toList b.toNat.toUInt8 ≥ 0)
def wordb (b : Int) : Bool := (decide (97 ≤ b ∧ b ≤ 122)) || ((decide (65 ≤ b ∧ b ≤ 90)) || ((decide (48 ≤ b ∧ b ≤ 57)) || b == 95))
def figb (b : Int) : Bool := decide (48 ≤ b ∧ b ≤ 57)
def greatb (b : Int) : Bool := (decide (65 ≤ b ∧ b ≤ 90)) || b == 95
def smallb (b : Int) : Bool := decide (97 ≤ b ∧ b ≤ 122)
def okb (n : Nat) (b : Nat) : Bool :=
  (pspec_SymbolByte (n + 100) (b : Int) == some (symb b)) && (pspec_l05Word (n + 100) (b : Int) == some (wordb b)) && (pimpl_wordByte (n + 100) (b : Int) == some (wordb b)) &&
  (pspec_l05Small (n + 100) (b : Int) == some (smallb b)) && (pimpl_lower (n + 100) (b : Int) == some (smallb b)) && (pspec_l05Great (n + 100) (b : Int) == some (greatb b)) &&
  (pspec_l05Figure (n + 100) (b : Int) == some (figb b)) && (pimpl_figure (n + 100) (b : Int) == some (figb b)) && (endb b == (((b : Int) == 32) || (((b : Int) == 9) || (((b : Int) == 10) || ((b : Int) == 37))))) &&
  (markb b == (((b : Int) == 40) || (((b : Int) == 41) || (((b : Int) == 91) || (((b : Int) == 93) || (((b : Int) == 44) || ((b : Int) == 124))))))) && !(symb b && markb b)
theorem okb_all (n : Nat) : (List.range 256).all (okb n) = true := by kernel_rfl
structure ByteOk (k : Nat) (b : Int) : Prop where
  sym : pspec_SymbolByte k b = some (symb b)
  word : pspec_l05Word k b = some (wordb b)
  iword : pimpl_wordByte k b = some (wordb b)
  small : pspec_l05Small k b = some (smallb b)
  ismall : pimpl_lower k b = some (smallb b)
  great : pspec_l05Great k b = some (greatb b)
  fig : pspec_l05Figure k b = some (figb b)
  ifig : pimpl_figure k b = some (figb b)
  ende : endb b = ((b == 32) || ((b == 9) || ((b == 10) || (b == 37))))
  mark : markb b = ((b == 40) || ((b == 41) || ((b == 91) || ((b == 93) || ((b == 44) || (b == 124))))))
  sm : symb b = true → markb b = false
theorem byteOk {k : Nat} (hk : 100 ≤ k) (s : ByteArray) (i : Int) : ByteOk k (bt s i) := by
  obtain ⟨n, rfl⟩ : ∃ n, k = n + 100 := ⟨k - 100, by omega⟩
  have hb := bt_le s i
  obtain ⟨b, hb'⟩ := Int.eq_ofNat_of_zero_le hb.1
  rw [hb'] at hb ⊢
  have h := List.all_eq_true.1 (okb_all n) b (List.mem_range.2 (by omega))
  unfold okb at h
  simp only [Bool.and_eq_true, beq_iff_eq] at h
  obtain ⟨⟨⟨⟨⟨⟨⟨⟨⟨⟨h1, h2⟩, h3⟩, h4⟩, h5⟩, h6⟩, h7⟩, h8⟩, h9⟩, h10⟩, h11⟩ := h
  exact ⟨h1, h2, h3, h4, h5, h6, h7, h8, h9, h10, fun q => by simpa [q] using h11⟩
theorem wr_u8 {x : Int} (h1 : 0 ≤ x) (h2 : x ≤ 255) : wr.u8 x = x := by
  unfold wr.u8 IntKind.wrap
  simp [IntKind.signed, IntKind.bits]
  omega
/-! runs -/
theorem idx {s : ByteArray} {n : Nat} (h : n < s.size) : 0 ≤ (n : Int) ∧ ((n : Int)).toNat < s.size := ⟨by omega, by simpa using h⟩
theorem lt_t {s : ByteArray} {n : Nat} (h : n < s.size) : decide ((n : Int) < (s.size : Int)) = true := by simpa using h
theorem lt_f {s : ByteArray} {n : Nat} (h : ¬ n < s.size) : ¬ decide ((n : Int) < (s.size : Int)) = true := by simpa using h
theorem wsucc {n : Nat} (h : n ≤ 3000) : wr.i64 ((n : Int) + 1) = ((n + 1 : Nat) : Int) := by rw [wr_i64 (by omega) (by omega)]; omega
/-- Up to here all bytes pass, and no further. -/
def Run (f : Int → Bool) (s : ByteArray) (n p : Nat) : Prop := n ≤ p ∧ p ≤ s.size ∧ (∀ i, n ≤ i → i < p → f (bt s (i : Int)) = true) ∧ (p < s.size → f (bt s (p : Int)) = false)
theorem Run.step {f : Int → Bool} {s : ByteArray} {n p : Nat} (h : f (bt s (n : Int)) = true) (g : Run f s (n + 1) p) : Run f s n p :=
  ⟨by have := g.1; omega, g.2.1, fun i h1 h2 => by
    by_cases c : i = n
    · rw [c]; exact h
    · exact g.2.2.1 i (by omega) h2, g.2.2.2⟩
theorem words {k : Nat} (hk : 100 ≤ k) {s : ByteArray} (hs : s.size ≤ 20) : ∀ (m n : Nat), n ≤ s.size → s.size - n < m → ∃ p : Nat, pspec_l05Run_L1 k s m (n : Int) = some (.done (p : Int)) ∧ pimpl_run_on2_pimpl_wordByte_L1 k s m (n : Int) = some (.done (p : Int)) ∧ Run wordb s n p
  | 0, n, h1, h2 => by omega
  | m + 1, n, h1, h2 => by
    rw [pspec_l05Run_L1, pimpl_run_on2_pimpl_wordByte_L1]
    by_cases hlt : n < s.size
    · have b := byteOk hk s (n : Int)
      rw [if_pos (lt_t hlt), if_pos (lt_t hlt), if_pos (idx hlt), if_pos (idx hlt), b.word, b.iword, obs, obs]
      cases hb : wordb (bt s (n : Int)) with
      | true =>
        rw [if_pos rfl, if_pos rfl, wsucc (by omega)]
        obtain ⟨p, e1, e2, e3⟩ := words hk hs m (n + 1) (by omega) (by omega)
        exact ⟨p, e1, e2, e3.step hb⟩
      | false => exact ⟨n, rfl, rfl, Nat.le_refl _, h1, fun i _ _ => by omega, fun _ => hb⟩
    · rw [if_neg (lt_f hlt), if_neg (lt_f hlt)]
      exact ⟨n, rfl, rfl, Nat.le_refl _, h1, fun i _ _ => by omega, fun h => absurd h hlt⟩
theorem symbols {k : Nat} (hk : 100 ≤ k) {s : ByteArray} (hs : s.size ≤ 20) : ∀ (m n : Nat), n ≤ s.size → s.size - n < m → ∃ p : Nat, pspec_l05Sign_L5 k s m (n : Int) = some (.done (p : Int)) ∧ pimpl_run_on2_pimpl_SymbolByte_L1 k s m (n : Int) = some (.done (p : Int)) ∧ Run symb s n p
  | 0, n, h1, h2 => by omega
  | m + 1, n, h1, h2 => by
    rw [pspec_l05Sign_L5, pimpl_run_on2_pimpl_SymbolByte_L1]
    by_cases hlt : n < s.size
    · have b := byteOk hk s (n : Int)
      have ib : pimpl_SymbolByte k (bt s (n : Int)) = some (symb (bt s (n : Int))) := by unfold pimpl_SymbolByte pstrings_IndexByte symb; rw [obs]
      rw [if_pos (lt_t hlt), if_pos (lt_t hlt), if_pos (idx hlt), if_pos (idx hlt), b.sym, ib, obs, obs]
      cases hb : symb (bt s (n : Int)) with
      | true =>
        rw [if_pos rfl, if_pos rfl, wsucc (by omega)]
        obtain ⟨p, e1, e2, e3⟩ := symbols hk hs m (n + 1) (by omega) (by omega)
        exact ⟨p, e1, e2, e3.step hb⟩
      | false => exact ⟨n, rfl, rfl, Nat.le_refl _, h1, fun i _ _ => by omega, fun _ => hb⟩
    · rw [if_neg (lt_f hlt), if_neg (lt_f hlt)]
      exact ⟨n, rfl, rfl, Nat.le_refl _, h1, fun i _ _ => by omega, fun h => absurd h hlt⟩
theorem figures {k : Nat} (hk : 100 ≤ k) {s : ByteArray} (hs : s.size ≤ 20) : ∀ (m n : Nat), n ≤ s.size → s.size - n < m → ∃ p : Nat, pimpl_run_on2_pimpl_figure_L1 k s m (n : Int) = some (.done (p : Int)) ∧ Run figb s n p
  | 0, n, h1, h2 => by omega
  | m + 1, n, h1, h2 => by
    rw [pimpl_run_on2_pimpl_figure_L1]
    by_cases hlt : n < s.size
    · have b := byteOk hk s (n : Int)
      rw [if_pos (lt_t hlt), if_pos (idx hlt), b.ifig, obs]
      cases hb : figb (bt s (n : Int)) with
      | true =>
        rw [if_pos rfl, wsucc (by omega)]
        obtain ⟨p, e1, e3⟩ := figures hk hs m (n + 1) (by omega) (by omega)
        exact ⟨p, e1, e3.step hb⟩
      | false => exact ⟨n, rfl, Nat.le_refl _, h1, fun i _ _ => by omega, fun _ => hb⟩
    · rw [if_neg (lt_f hlt)]
      exact ⟨n, rfl, Nat.le_refl _, h1, fun i _ _ => by omega, fun h => absurd h hlt⟩
/-- The number, on both sides. -/
theorem number {k : Nat} (hk : 100 ≤ k) {s : ByteArray} (hs : s.size ≤ 20) {p : Nat} : ∀ (m n : Nat) (v : Int), n ≤ p → p - n < m → s.size - n < m → Run figb s n p → 0 ≤ v → v ≤ 9999999999 →
    ∃ i v', pspec_l05Sign_L2 k s m (n : Int) v = some (.done ((i : Nat), v')) ∧ pimpl_nextSign_L4 k (p : Int) s m v (n : Int) = some (.done v') ∧ (v' ≤ 999999999 → i = p)
  | 0, n, v, h1, h2, h3, h4, h5, h6 => by omega
  | m + 1, n, v, h1, h2, h3, h4, h5, h6 => by
    rw [pspec_l05Sign_L2, pimpl_nextSign_L4]
    have hps := h4.2.1
    by_cases hp : n < p
    · have hlt : n < s.size := by omega
      have b := byteOk hk s (n : Int)
      have hf := h4.2.2.1 n (Nat.le_refl _) hp
      have hpd : decide ((n : Int) < (p : Int)) = true := by simpa using hp
      rw [if_pos (lt_t hlt), if_pos (idx hlt), b.fig, obs, hf, if_pos rfl, if_pos hpd]
      by_cases c : v ≤ 999999999
      · have cd : decide (v ≤ 999999999) = true := by simpa using c
        simp only [if_pos cd, if_pos (idx hlt), wsucc (show n ≤ 3000 by omega)]
        unfold figb at hf
        have hr := of_decide_eq_true hf
        have w1 : wr.i64 (10 * v) = 10 * v := wr_i64 (by omega) (by omega)
        have w2 : wr.i64 (bt s (n : Int)) = bt s (n : Int) := wr_i64 (by omega) (by omega)
        have w3 : wr.u8 (bt s (n : Int) - 48) = bt s (n : Int) - 48 := by
          exact wr_u8 (by omega) (by omega)
        have w4 : wr.i64 (bt s (n : Int) - 48) = bt s (n : Int) - 48 := wr_i64 (by omega) (by omega)
        rw [w1, w2, w3, w4, wr_i64 (x := 10 * v + bt s (n : Int)) (by omega) (by omega), wr_i64 (x := 10 * v + bt s (n : Int) - 48) (by omega) (by omega), wr_i64 (x := 10 * v + (bt s (n : Int) - 48)) (by omega) (by omega), show 10 * v + (bt s (n : Int) - 48) = 10 * v + bt s (n : Int) - 48 by omega]
        exact number hk hs m (n + 1) _ (by omega) (by omega) (by omega) ⟨by omega, h4.2.1, fun i a b => h4.2.2.1 i (by omega) b, h4.2.2.2⟩ (by omega) (by omega)
      · have cd : ¬ decide (v ≤ 999999999) = true := by simpa using c
        rw [if_neg cd, if_neg cd]
        exact ⟨n, v, rfl, rfl, fun h => absurd h c⟩
    · have hn : n = p := by omega
      subst hn
      have hpd : ¬ decide ((n : Int) < (n : Int)) = true := by simp
      rw [if_neg hpd]
      by_cases hlt : n < s.size
      · have b := byteOk hk s (n : Int)
        rw [if_pos (lt_t hlt), if_pos (idx hlt), b.fig, obs, h4.2.2.2 hlt, if_neg (by decide)]
        exact ⟨n, v, rfl, rfl, fun _ => rfl⟩
      · rw [if_neg (lt_f hlt)]
        exact ⟨n, v, rfl, rfl, fun _ => rfl⟩
/-! one sign, on both sides -/
theorem ext_size {s : ByteArray} {a b : Nat} (h : b ≤ s.size) : (s.extract a b).size = b - a := by rw [ByteArray.size_extract]; omega
theorem near {k : Nat} {s : ByteArray} {n p : Nat} (hs : s.size ≤ 20) (h1 : n ≤ p) (h2 : p ≤ s.size) {g : GSign} (hg : g.gKind = 1 ∨ g.gKind = 2) :
    pimpl_nextSign_J1 k (n : Int) s (p : Int) g = some (GSign.mk g.gKind (s.extract n p) g.gNum g.gAt g.gNear, (p : Int)) := by
  unfold pimpl_nextSign_J1 pimpl_nextSign_J2
  have hz : ¬ (g.gKind == 0) = true := by rcases hg with h | h <;> rw [h] <;> decide
  have h4 : (g.gKind != 4) = true := by rcases hg with h | h <;> rw [h] <;> decide
  have hd : ¬ decide (((s.extract ((n : Int)).toNat ((p : Int)).toNat).size : Int) > 20) = true := by
    simp only [Int.toNat_natCast, ext_size h2]; rw [decide_eq_true_eq]; omega
  rw [if_pos ⟨by omega, by omega, by omega⟩, if_neg hz, if_pos h4, if_neg hd]
  rfl
theorem bad {k : Nat} {s : ByteArray} {n : Nat} (hs : s.size ≤ 20) (h1 : n < s.size) {e : Int} (he : (n : Int) ≤ e ∧ e ≤ (s.size : Int)) : pimpl_nextSign_J1 k (n : Int) s e (GSign.mk 0 (bs []) 0 (n : Int) false) = some (GSign.mk 6 (s.extract n (n + 1)) 0 (n : Int) false, ((n + 1 : Nat) : Int)) := by
  unfold pimpl_nextSign_J1 pimpl_nextSign_J2
  dsimp only
  rw [if_pos ⟨by omega, he.1, he.2⟩, if_pos (by decide), if_pos rfl, wsucc (by omega), if_pos ⟨by omega, by omega, by omega⟩]
  rfl
theorem mark4 {k : Nat} {s : ByteArray} {n : Nat} (hs : s.size ≤ 20) (h1 : n < s.size) : pimpl_nextSign_J1 k (n : Int) s (wr.i64 ((n : Int) + 1)) (GSign.mk 4 (bs []) 0 (n : Int) false) = some (GSign.mk 4 (s.extract n (n + 1)) 0 (n : Int) false, ((n + 1 : Nat) : Int)) := by
  unfold pimpl_nextSign_J1 pimpl_nextSign_J2
  dsimp only
  rw [wsucc (by omega), if_pos ⟨by omega, by omega, by omega⟩, if_neg (by decide), if_neg (by decide), if_neg (by decide)]
  rfl
/-- Does a term end here? -/
def fin (s : ByteArray) (n : Nat) : Bool := (bt s (n : Int) == 46) && ((n == 0 || !symb (bt s ((n - 1 : Nat) : Int))) && (n + 1 == s.size || endb (bt s ((n + 1 : Nat) : Int))))
theorem ends {k : Nat} (hk : 100 ≤ k) {s : ByteArray} (hs : s.size ≤ 20) (hn10 : ∀ i : Nat, i < s.size → gb s i) {n : Nat} (h : n < s.size) : pspec_l05End k s (n : Int) = some (fin s n) ∧ pimpl_endsHere k s (n : Int) = some (fin s n) := by
  have tailS : n + 1 ≠ s.size → (pspec_l05Blank k (bt s ((n + 1 : Nat) : Int))).bind (fun e => if e = true then some true else if 0 ≤ ((n + 1 : Nat) : Int) ∧ (((n + 1 : Nat) : Int)).toNat < s.size then some ((bt s ((n + 1 : Nat) : Int)) == 37) else none) = some (endb (bt s ((n + 1 : Nat) : Int))) := fun hq => by
    have b := byteOk hk s ((n + 1 : Nat) : Int)
    rw [b.ende]
    unfold pspec_l05Blank
    rw [if_pos (idx (show n + 1 < s.size by omega))]
    cases bt s ((n + 1 : Nat) : Int) == 32 <;> cases bt s ((n + 1 : Nat) : Int) == 9 <;> cases bt s ((n + 1 : Nat) : Int) == 10 <;> rfl
  have J1 : pimpl_endsHere_J1 k (n : Int) s = some (n + 1 == s.size || endb (bt s ((n + 1 : Nat) : Int))) := by
    unfold pimpl_endsHere_J1
    rw [wsucc (by omega)]
    by_cases hq : n + 1 = s.size
    · rw [if_pos (by rw [beq_iff_eq]; omega), show (n + 1 == s.size) = true from by rw [beq_iff_eq]; exact hq]; rfl
    · rw [if_neg (by rw [beq_iff_eq]; omega), if_pos (idx (show n + 1 < s.size by omega)), show (n + 1 == s.size) = false from by rw [beq_eq_false_iff_ne]; exact hq]
      unfold pstrings_IndexByte endb
      rw [obs]; rfl
  have tS : (if (((n + 1 : Nat) : Int) == (s.size : Int)) = true then some true else if 0 ≤ ((n + 1 : Nat) : Int) ∧ (((n + 1 : Nat) : Int)).toNat < s.size then (pspec_l05Blank k (bt s ((n + 1 : Nat) : Int))).bind (fun e => if e = true then some true else if 0 ≤ ((n + 1 : Nat) : Int) ∧ (((n + 1 : Nat) : Int)).toNat < s.size then some ((bt s ((n + 1 : Nat) : Int)) == 37) else none) else none) = some (n + 1 == s.size || endb (bt s ((n + 1 : Nat) : Int))) := by
    by_cases hq : n + 1 = s.size
    · rw [if_pos (by rw [beq_iff_eq]; omega), show (n + 1 == s.size) = true from by rw [beq_iff_eq]; exact hq]; rfl
    · rw [if_neg (by rw [beq_iff_eq]; omega), if_pos (idx (show n + 1 < s.size by omega)), show (n + 1 == s.size) = false from by rw [beq_eq_false_iff_ne]; exact hq, tailS hq]; rfl
  unfold pspec_l05End pimpl_endsHere fin
  rw [if_pos (idx h), if_pos (idx h), wsucc (by omega)]
  cases h46 : bt s (n : Int) == 46 with
  | false =>
    have : (bt s (n : Int) != 46) = true := by unfold bne; rw [h46]; rfl
    rw [if_neg (by decide), if_pos this]; exact ⟨rfl, rfl⟩
  | true =>
    have : ¬ (bt s (n : Int) != 46) = true := by unfold bne; rw [h46]; decide
    rw [if_pos rfl, if_neg this]
    by_cases h0 : n = 0
    · subst h0
      rw [if_pos (by decide), tS, if_neg (by decide), J1]
      exact ⟨rfl, rfl⟩
    · have hm : wr.i64 ((n : Int) - 1) = ((n - 1 : Nat) : Int) := by rw [wr_i64 (by omega) (by omega)]; omega
      have b := byteOk hk s ((n - 1 : Nat) : Int)
      have ib : pimpl_SymbolByte k (bt s ((n - 1 : Nat) : Int)) = some (symb (bt s ((n - 1 : Nat) : Int))) := by unfold pimpl_SymbolByte pstrings_IndexByte symb; rw [obs]
      have hn0 : ¬ ((n : Int) == 0) = true := by rw [beq_iff_eq]; omega
      have hpos : decide ((n : Int) > 0) = true := by rw [decide_eq_true_eq]; omega
      rw [if_neg hn0, hm, if_pos (idx (show n - 1 < s.size by omega)), b.sym, obs, if_pos hpos, if_pos (idx (show n - 1 < s.size by omega)), ib, obs, J1, show (n == 0) = false from by rw [beq_eq_false_iff_ne]; exact h0]
      cases symb (bt s ((n - 1 : Nat) : Int)) with
      | true => exact ⟨rfl, rfl⟩
      | false =>
        simp only [Bool.not_false, if_true, Bool.false_eq_true, if_false]
        rw [tS]; exact ⟨rfl, rfl⟩
theorem ext_one {s : ByteArray} {n : Nat} (h : n < s.size) (hb : bt s (n : Int) = 46) : s.extract n (n + 1) = bs [46] := by
  have e : s[n] = 46 := by
    unfold bt at hb
    rw [Int.toNat_natCast, getElem?_pos s n h, Option.getD_some] at hb
    have : s[n].toNat = 46 := by omega
    exact UInt8.toNat_inj.1 this
  apply ByteArray.ext
  rw [ByteArray.data_extract]
  apply Array.ext
  · have : s.data.size = s.size := rfl
    simp [bs]; omega
  · intro i h1 h2
    have : i = 0 := by simp [bs] at h2; omega
    subst this
    simp [bs]
    exact e
theorem sign {k : Nat} (hk : 3000 ≤ k) {s : ByteArray} (hs : nmOk s) {n : Nat} (h : n < s.size) : ∃ g : GSign, ∃ p : Nat, pimpl_nextSign k s (n : Int) = some (g, (p : Int)) ∧ pspec_l05Sign k s (n : Int) = some (g, (p : Int)) ∧ n < p ∧ p ≤ s.size := by
  have hz := hs.2.2
  have hk' : 100 ≤ k := by omega
  have b := byteOk hk' s (n : Int)
  have hg := hs.1 n h
  obtain ⟨hE, hI⟩ := ends hk' hz hs.1 h
  have w1 : wr.i64 ((n : Int) + 1) = ((n + 1 : Nat) : Int) := wsucc (by omega)
  have ib : pimpl_SymbolByte k (bt s (n : Int)) = some (symb (bt s (n : Int))) := by unfold pimpl_SymbolByte pstrings_IndexByte symb; rw [obs]
  have one : s.extract n (n + 1) = s.extract (n : Int).toNat ((n + 1 : Nat) : Int).toNat := rfl
  obtain ⟨pw, ew1, ew2, ew3⟩ := words hk' hz k n (by omega) (by omega)
  obtain ⟨ps, es1, es2, es3⟩ := symbols hk' hz k n (by omega) (by omega)
  obtain ⟨pf, ef1, ef2⟩ := figures hk' hz k n (by omega) (by omega)
  have hup : pimpl_upper k (bt s (n : Int)) = some (decide (65 ≤ bt s (n : Int) ∧ bt s (n : Int) ≤ 90)) := by
    unfold pimpl_upper
    by_cases c : 65 ≤ bt s (n : Int)
    · rw [if_pos (by simpa using c)]; simp [c]
    · rw [if_neg (by simpa using c)]; simp [c]
  have hws : smallb (bt s (n : Int)) = true ∨ greatb (bt s (n : Int)) = true → wordb (bt s (n : Int)) = true := by
    unfold smallb greatb wordb; simp; omega
  have stop : ∀ {f : Int → Bool} {p : Nat}, Run f s n p → f (bt s (n : Int)) = true → n < p := fun {f p} r hf => by
    rcases Nat.lt_or_ge n p with q | q
    · exact q
    · have : p = n := by have := r.1; omega
      subst this
      rw [r.2.2.2 h] at hf; cases hf
  -- a word
  have W : smallb (bt s (n : Int)) = true ∨ greatb (bt s (n : Int)) = true → ∃ g : GSign, pimpl_nextSign_J3 k s (n : Int) true = some (g, (pw : Int)) ∧ pspec_l05Sign_J1 k s (n : Int) true = some (g, (pw : Int)) ∧ n < pw ∧ pw ≤ s.size := by
    intro hw
    have hlt := stop ew3 (hws hw)
    have hps := ew3.2.1
    unfold pimpl_nextSign_J3 pspec_l05Sign_J1 pimpl_run_on2_pimpl_wordByte pspec_l05Run
    have h20 : decide ((pw : Int) - (n : Int) ≤ 20) = true := by rw [decide_eq_true_eq]; omega
    simp only [if_true, ew1, ew2, obs, b.ismall, b.great]
    rw [wr_i64 (x := (pw : Int) - (n : Int)) (by omega) (by omega), if_pos h20]
    cases hgr : greatb (bt s (n : Int)) with
    | true =>
      have hsm : smallb (bt s (n : Int)) = false := by
        unfold greatb at hgr; unfold smallb; simp at hgr ⊢; omega
      simp only [hsm, Bool.false_eq_true, if_false, if_true]
      rw [if_pos ⟨by omega, by omega, by omega⟩, near hz (by omega) hps (.inr rfl)]
      exact ⟨_, rfl, rfl, hlt, hps⟩
    | false =>
      have hsm : smallb (bt s (n : Int)) = true := by rcases hw with hw | hw; exact hw; rw [hw] at hgr; cases hgr
      simp only [hsm, Bool.false_eq_true, if_false, if_true]
      rw [if_pos ⟨by omega, by omega, by omega⟩, near hz (by omega) hps (.inl rfl)]
      exact ⟨_, rfl, rfl, hlt, hps⟩
  -- all else
  have J4 : ∀ e : Bool, smallb (bt s (n : Int)) = false → e = markb (bt s (n : Int)) → fin s n = false → (bt s (n : Int) == 33) = false → (bt s (n : Int) == 59) = false → greatb (bt s (n : Int)) = false → figb (bt s (n : Int)) = false →
      ∃ g : GSign, ∃ p : Nat, pimpl_nextSign_J3 k s (n : Int) false = some (g, (p : Int)) ∧ pspec_l05Sign_J4 k s (n : Int) e = some (g, (p : Int)) ∧ n < p ∧ p ≤ s.size := by
    intro e _ he hf h33 h59 _ hfig
    unfold pimpl_nextSign_J3 pspec_l05Sign_J4
    rw [if_neg (by decide), b.ifig, obs, hfig, if_neg (by decide), ib, obs, hE, obs, hf, w1]
    subst he
    cases hsy : symb (bt s (n : Int)) with
    | true =>
      have hmk : markb (bt s (n : Int)) = false := b.sm hsy
      have hlt := stop es3 hsy
      have hps := es3.2.1
      unfold pimpl_run_on2_pimpl_SymbolByte
      have h20 : decide ((ps : Int) - (n : Int) ≤ 20) = true := by rw [decide_eq_true_eq]; omega
      simp only [hmk, if_true, Bool.false_eq_true, if_false, b.sym, hsy, es1, es2, obs]
      rw [wr_i64 (x := (ps : Int) - (n : Int)) (by omega) (by omega), if_pos h20, if_pos ⟨by omega, by omega, by omega⟩, near hz (by omega) hps (.inl rfl)]
      exact ⟨_, _, rfl, rfl, hlt, hps⟩
    | false =>
      unfold pimpl_nextSign_J5 pstrings_IndexByte
      rw [if_neg (by decide), h33, if_neg (by decide), h59, if_neg (by decide), obs]
      cases hmk : markb (bt s (n : Int)) with
      | true =>
        have : decide (Lib.indexByte (bs [40, 41, 91, 93, 44, 124]).data.toList (bt s (n : Int)).toNat.toUInt8 ≥ 0) = true := hmk
        rw [if_pos this, if_pos rfl, mark4 hz h]
        exact ⟨_, _, rfl, rfl, by omega, by omega⟩
      | false =>
        have : ¬ decide (Lib.indexByte (bs [40, 41, 91, 93, 44, 124]).data.toList (bt s (n : Int)).toNat.toUInt8 ≥ 0) = true := by
          have : markb (bt s (n : Int)) = false := hmk
          unfold markb at this
          rw [this]; decide
        have h39 : ¬ (bt s (n : Int) == 39) = true := by rw [beq_iff_eq]; exact hg.2.2.1
        rw [if_neg this, if_neg h39, if_neg (by decide), if_neg (by decide), b.sym, obs, hsy, if_neg (by decide), w1, bad hz h (by omega)]
        exact ⟨_, _, rfl, rfl, by omega, by omega⟩
  have F : figb (bt s (n : Int)) = true → fin s n = false → ∃ g : GSign, ∃ p : Nat, pimpl_nextSign_J3 k s (n : Int) false = some (g, (p : Int)) ∧ pspec_l05Sign_J1 k s (n : Int) false = some (g, (p : Int)) ∧ n < p ∧ p ≤ s.size := by
    intro hf _
    have hlt := stop ef2 hf
    have hps := ef2.2.1
    obtain ⟨i, v, q1, q2, q3⟩ := number hk' hz (p := pf) k n 0 (by omega) (by omega) (by omega) ef2 (by omega) (by omega)
    unfold pimpl_nextSign_J3 pspec_l05Sign_J1 pimpl_run_on2_pimpl_figure
    simp only [Bool.false_eq_true, if_false, if_true, b.ifig, b.fig, hf, ef1, obs, q1, q2]
    by_cases c : v ≤ 999999999
    · have cd : decide (v ≤ 999999999) = true := by simpa using c
      rw [if_pos cd, if_pos cd, q3 c]
      exact ⟨_, _, rfl, rfl, hlt, hps⟩
    · have cd : ¬ decide (v ≤ 999999999) = true := by simpa using c
      rw [if_neg cd, if_neg cd, w1, bad hz h (by omega)]
      exact ⟨_, _, rfl, rfl, by omega, by omega⟩
  have S : pspec_l05Sign k s (n : Int) = pspec_l05Sign_J1 k s (n : Int) (smallb (bt s (n : Int)) || greatb (bt s (n : Int))) := by
    unfold pspec_l05Sign
    rw [if_pos (idx h), w1, if_pos ⟨by omega, by omega, by omega⟩, b.small, obs, b.great]
    cases smallb (bt s (n : Int)) with
    | true => rfl
    | false => rw [if_neg (by decide), obs]; rfl
  have I : fin s n = false → pimpl_nextSign k s (n : Int) = pimpl_nextSign_J3 k s (n : Int) (smallb (bt s (n : Int)) || greatb (bt s (n : Int))) := by
    intro hf
    unfold pimpl_nextSign
    rw [if_pos (idx h), hI, obs, hf, if_neg (by decide), b.ismall, obs, hup, obs]
    unfold greatb
    cases smallb (bt s (n : Int)) with
    | true => rfl
    | false => cases decide (65 ≤ bt s (n : Int) ∧ bt s (n : Int) ≤ 90) <;> rfl
  have h39 : ¬ (bt s (n : Int) == 39) = true := by rw [beq_iff_eq]; exact hg.2.2.1
  have M : figb (bt s (n : Int)) = false → (bt s (n : Int) == 33) = false → (bt s (n : Int) == 59) = false → pspec_l05Sign_J1 k s (n : Int) false = pspec_l05Sign_J4 k s (n : Int) (markb (bt s (n : Int))) := by
    intro hf h33 h59
    unfold pspec_l05Sign_J1 pspec_l05Sign_J3
    rw [b.mark]
    simp only [Bool.false_eq_true, if_false, b.fig, hf, obs, if_neg h39, h33, h59]
    cases bt s (n : Int) == 40 <;> cases bt s (n : Int) == 41 <;> cases bt s (n : Int) == 91 <;> cases bt s (n : Int) == 93 <;> cases bt s (n : Int) == 44 <;> rfl
  cases hf : fin s n with
  | true =>
    have h46 : bt s (n : Int) = 46 := by
      unfold fin at hf
      simp only [Bool.and_eq_true, beq_iff_eq] at hf
      exact hf.1
    refine ⟨GSign.mk 5 (bs [46]) 0 (n : Int) false, n + 1, ?_, ?_, by omega, by omega⟩
    · unfold pimpl_nextSign
      rw [if_pos (idx h), hI, obs, hf, if_pos rfl, w1]
    · rw [S, h46, show (smallb 46 || greatb 46) = false from rfl, M (by rw [h46]; rfl) (by rw [h46]; rfl) (by rw [h46]; rfl), h46, show markb 46 = false from by decide]
      unfold pspec_l05Sign_J4
      rw [if_neg (by decide), hE, obs, hf, if_pos rfl, w1]
      show some (GSign.mk 5 (s.extract n (n + 1)) 0 (n : Int) false, _) = _
      rw [ext_one h h46]
  | false =>
    rw [I hf, S]
    cases hsm : smallb (bt s (n : Int)) with
    | true => obtain ⟨g, x1, x2, x3, x4⟩ := W (.inl hsm); exact ⟨g, pw, x1, x2, x3, x4⟩
    | false =>
      cases hgr : greatb (bt s (n : Int)) with
      | true => obtain ⟨g, x1, x2, x3, x4⟩ := W (.inr hgr); exact ⟨g, pw, x1, x2, x3, x4⟩
      | false =>
        show ∃ g : GSign, ∃ p : Nat, pimpl_nextSign_J3 k s (n : Int) false = some (g, (p : Int)) ∧ pspec_l05Sign_J1 k s (n : Int) false = some (g, (p : Int)) ∧ n < p ∧ p ≤ s.size
        cases hfg : figb (bt s (n : Int)) with
        | true => exact F hfg hf
        | false =>
          by_cases h33 : bt s (n : Int) = 33 ∨ bt s (n : Int) = 59
          · refine ⟨GSign.mk 1 (s.extract n (n + 1)) 0 (n : Int) false, n + 1, ?_, ?_, by omega, by omega⟩
            · have hsy : symb (bt s (n : Int)) = false := by rcases h33 with q | q <;> rw [q] <;> decide
              have hx : (if (bt s (n : Int) == 33) = true then pimpl_nextSign_J5 k (n : Int) s true else pimpl_nextSign_J5 k (n : Int) s (bt s (n : Int) == 59)) = pimpl_nextSign_J5 k (n : Int) s true := by
                rcases h33 with q | q <;> rw [q] <;> rfl
              unfold pimpl_nextSign_J3
              rw [if_neg (by decide), b.ifig, obs, hfg, if_neg (by decide), ib, obs, hsy, if_neg (by decide), hx]
              unfold pimpl_nextSign_J5
              rw [if_pos rfl, w1, near hz (by omega) (by omega) (.inl rfl)]
            · unfold pspec_l05Sign_J1
              have hx : (if (bt s (n : Int) == 33) = true then pspec_l05Sign_J3 k s (n : Int) true else pspec_l05Sign_J3 k s (n : Int) (bt s (n : Int) == 59)) = pspec_l05Sign_J3 k s (n : Int) true := by
                rcases h33 with q | q <;> rw [q] <;> rfl
              rw [if_neg (by decide), b.fig, obs, hfg, if_neg (by decide), if_neg h39, hx]
              unfold pspec_l05Sign_J3
              rw [if_pos rfl, w1]; rfl
          · have a33 : (bt s (n : Int) == 33) = false := by rw [beq_eq_false_iff_ne]; exact fun q => h33 (.inl q)
            have a59 : (bt s (n : Int) == 59) = false := by rw [beq_eq_false_iff_ne]; exact fun q => h33 (.inr q)
            rw [M hfg a33 a59]
            exact J4 _ hsm rfl hf a33 a59 hgr hfg
/-! all signs of a name -/
theorem rest10 {k : Nat} {s : ByteArray} (hs : nmOk s) : ∀ (m n : Nat), n ≤ s.size → s.size - n < m → pspec_SignsOf_L2 k s m (n : Int) = some (.done (s.size : Int)) ∧ pimpl_run_on2_pimpl_SignsOf_1_L1 k s m (n : Int) = some (.done (s.size : Int))
  | 0, n, h1, h2 => by omega
  | m + 1, n, h1, h2 => by
    have hz := hs.2.2
    rw [pspec_SignsOf_L2, pimpl_run_on2_pimpl_SignsOf_1_L1]
    by_cases hlt : n < s.size
    · have hg := hs.1 n hlt
      have h10 : (bt s (n : Int) != 10) = true := by rw [bne_iff_ne]; have := hg.1; omega
      unfold pimpl_SignsOf_1
      rw [if_pos (lt_t hlt), if_pos (lt_t hlt), if_pos (idx hlt), if_pos (idx hlt), obs, h10, if_pos rfl, if_pos rfl, wsucc (by omega)]
      exact rest10 hs m (n + 1) (by omega) (by omega)
    · rw [if_neg (lt_f hlt), if_neg (lt_f hlt)]
      have : n = s.size := by omega
      rw [this]; exact ⟨rfl, rfl⟩
theorem signs_L1 {k : Nat} (hk : 3000 ≤ k) {s : ByteArray} (hs : nmOk s) : ∀ (m n : Nat) (g : List GSign), n ≤ s.size → s.size - n < m → g.length ≤ n → ∃ g', pspec_SignsOf_L1 k s m g (n : Int) = some (.done g') ∧ pimpl_SignsOf_L1 k s m g (n : Int) = some (.done g')
  | 0, n, g, h1, h2, h3 => by omega
  | m + 1, n, g, h1, h2, h3 => by
    have hz := hs.2.2
    rw [pspec_SignsOf_L1, pimpl_SignsOf_L1]
    by_cases hlt : n < s.size
    · have hg := hs.1 n hlt
      have h32 : (bt s (n : Int) == 32) = false := by rw [beq_eq_false_iff_ne]; have := hg.1; omega
      have h9 : (bt s (n : Int) == 9) = false := by rw [beq_eq_false_iff_ne]; have := hg.1; omega
      have h10 : (bt s (n : Int) == 10) = false := by rw [beq_eq_false_iff_ne]; have := hg.1; omega
      have hbl : pspec_l05Blank k (bt s (n : Int)) = some false := by unfold pspec_l05Blank; rw [h32, if_neg (by decide), h9, if_neg (by decide), h10]
      rw [if_pos (lt_t hlt), if_pos (lt_t hlt), if_pos (idx hlt), if_pos (idx hlt), hbl, obs, if_neg Bool.false_ne_true, if_pos (idx hlt), h32, if_neg Bool.false_ne_true, h9, if_neg Bool.false_ne_true, h10]
      unfold pimpl_SignsOf_J2
      rw [if_neg Bool.false_ne_true]
      by_cases h37 : (bt s (n : Int) == 37) = true
      · obtain ⟨r1, r2⟩ := rest10 (k := k) hs k n h1 (by omega)
        unfold pimpl_run_on2_pimpl_SignsOf_1
        rw [if_pos h37, if_pos h37, r1, r2, obs, obs]
        have ih := signs_L1 hk hs m s.size g (Nat.le_refl _) (by omega) (by omega)
        simpa only [obs] using ih
      · obtain ⟨q, p, e1, e2, hp, hps⟩ := sign hk hs hlt
        rw [if_neg h37, if_neg h37, e1, e2, obs, obs]
        simp only
        by_cases hlp : p < s.size
        · rw [if_pos (lt_t hlp), if_pos (lt_t hlp), if_pos (idx hlp), if_pos (idx hlp)]
          have hle : ∀ z : GSign, g.length + [z].length ≤ 1073741824 := fun z => by simp only [List.length_cons, List.length_nil]; omega
          rw [if_pos (hle _), if_pos (hle _)]
          exact signs_L1 hk hs m p _ hps (by omega) (by simp only [List.length_append, List.length_cons, List.length_nil]; omega)
        · have hle : ∀ z : GSign, g.length + [z].length ≤ 1073741824 := fun z => by simp only [List.length_cons, List.length_nil]; omega
          rw [if_neg (lt_f hlp), if_neg (lt_f hlp), if_pos (hle _), if_pos (hle _)]
          exact signs_L1 hk hs m p _ hps (by omega) (by simp only [List.length_append, List.length_cons, List.length_nil]; omega)
    · rw [if_neg (lt_f hlt), if_neg (lt_f hlt)]
      exact ⟨g, rfl, rfl⟩
/-- A name as it is written. -/
theorem atomText {k : Nat} (hk : 3000 ≤ k) {s : ByteArray} (hs : nmOk s) : ∃ r, pspec_AtomText k s = some r ∧ pimpl_AtomText k s = some r ∧ r.size ≤ 22 := by
  have hz := hs.2.2
  obtain ⟨g, e1, e2⟩ := signs_L1 hk hs k 0 [] (by omega) (by omega) (by simp)
  rw [show ((0 : Nat) : Int) = 0 from rfl] at e1 e2
  have f1 : pspec_SignsOf k s = some (g, true) := by
    unfold pspec_SignsOf
    rw [if_neg (by rw [decide_eq_true_eq]; omega), e1]; rfl
  have f2 : pimpl_SignsOf k s = some (g, true) := by
    unfold pimpl_SignsOf
    rw [if_neg (by rw [decide_eq_true_eq]; omega), e2]; rfl
  have z1 : (bs [39]).size = 1 := by decide
  have s1 : sumOk (bs [39]) s := by unfold sumOk; omega
  have s2 : sumOk (bs [39] ++ s) (bs [39]) := by unfold sumOk; rw [ByteArray.size_append]; omega
  have hq : (bs [39] ++ s ++ bs [39]).size ≤ 22 := by rw [ByteArray.size_append, ByteArray.size_append]; omega
  unfold pspec_AtomText pimpl_AtomText
  rw [f1, f2, obs, obs]
  simp only [if_pos s1, if_pos s2, if_true]
  by_cases hl : g.length = 1
  · have hl' : ((g.length : Int) == 1) = true := by rw [beq_iff_eq]; omega
    rw [if_pos hl']
    have a0 : at' g 0 = some g[0] := at_lt (n := 0) (by omega)
    simp only [a0, obs]
    split
    · split
      · exact ⟨_, rfl, rfl, by omega⟩
      · exact ⟨_, rfl, rfl, hq⟩
    · exact ⟨_, rfl, rfl, hq⟩
  · have hl' : ¬ ((g.length : Int) == 1) = true := by rw [beq_iff_eq]; omega
    rw [if_neg hl']
    exact ⟨_, rfl, rfl, hq⟩
/-! fuel does not matter -/
theorem Run.uniq {f : Int → Bool} {s : ByteArray} {n p q : Nat} (a : Run f s n p) (b : Run f s n q) : p = q := by
  rcases Nat.lt_trichotomy p q with h | h | h
  · have := b.2.2.1 p a.1 h
    rw [a.2.2.2 (by have := b.2.1; omega)] at this; cases this
  · exact h
  · have := a.2.2.1 q b.1 h
    rw [b.2.2.2 (by have := a.2.1; omega)] at this; cases this
theorem L4K {kA kB : Nat} {s : ByteArray} {p : Nat} (hp : p ≤ s.size) (hs : s.size ≤ 20) : ∀ (mA mB n : Nat) (v : Int), n ≤ p → p - n < mA → p - n < mB → pimpl_nextSign_L4 kA (p : Int) s mA v (n : Int) = pimpl_nextSign_L4 kB (p : Int) s mB v (n : Int)
  | 0, mB, n, v, h0, h1, h2 => by omega
  | mA + 1, 0, n, v, h0, h1, h2 => by omega
  | mA + 1, mB + 1, n, v, h0, h1, h2 => by
    rw [pimpl_nextSign_L4, pimpl_nextSign_L4]
    by_cases hlt : n < p
    · have hd : decide ((n : Int) < (p : Int)) = true := by simpa using hlt
      rw [if_pos hd, if_pos hd, wsucc (by omega), L4K hp hs mA mB (n + 1) _ (by omega) (by omega) (by omega)]
    · have hd : ¬ decide ((n : Int) < (p : Int)) = true := by simpa using hlt
      rw [if_neg hd, if_neg hd]
theorem nextK {kA kB : Nat} (hA : 3000 ≤ kA) (hB : 3000 ≤ kB) {s : ByteArray} (hs : nmOk s) {n : Nat} (h : n < s.size) : pimpl_nextSign kA s (n : Int) = pimpl_nextSign kB s (n : Int) := by
  have hz := hs.2.2
  obtain ⟨pw, _, a1, a2⟩ := words (k := kA) (by omega) hz kA n (by omega) (by omega)
  obtain ⟨pw', _, b1, b2⟩ := words (k := kB) (by omega) hz kB n (by omega) (by omega)
  obtain rfl := a2.uniq b2
  obtain ⟨ps, _, c1, c2⟩ := symbols (k := kA) (by omega) hz kA n (by omega) (by omega)
  obtain ⟨ps', _, d1, d2⟩ := symbols (k := kB) (by omega) hz kB n (by omega) (by omega)
  obtain rfl := c2.uniq d2
  obtain ⟨pf, e1, e2⟩ := figures (k := kA) (by omega) hz kA n (by omega) (by omega)
  obtain ⟨pf', f1, f2⟩ := figures (k := kB) (by omega) hz kB n (by omega) (by omega)
  obtain rfl := e2.uniq f2
  have g1 := L4K (kA := kA) (kB := kB) (p := pf) (s := s) e2.2.1 hz kA kB n 0 e2.1 (by have := e2.2.1; omega) (by have := e2.2.1; omega)
  have h39 : ¬ (bt s (n : Int) == 39) = true := by rw [beq_iff_eq]; exact (hs.1 n h).2.2.1
  have J5 : ∀ e, pimpl_nextSign_J5 kA (n : Int) s e = pimpl_nextSign_J5 kB (n : Int) s e := fun e => by
    unfold pimpl_nextSign_J5
    simp only [if_neg h39]
    rfl
  have J3 : ∀ e, pimpl_nextSign_J3 kA s (n : Int) e = pimpl_nextSign_J3 kB s (n : Int) e := fun e => by
    unfold pimpl_nextSign_J3 pimpl_run_on2_pimpl_wordByte pimpl_run_on2_pimpl_figure pimpl_run_on2_pimpl_SymbolByte
    simp only [a1, b1, c1, d1, e1, f1, obs, g1, J5]
    rfl
  unfold pimpl_nextSign
  simp only [J3]
  rfl
theorem signsK {kA kB : Nat} (hA : 3000 ≤ kA) (hB : 3000 ≤ kB) {s : ByteArray} (hs : nmOk s) : ∀ (mA mB n : Nat) (g : List GSign), n ≤ s.size → s.size - n < mA → s.size - n < mB → pimpl_SignsOf_L1 kA s mA g (n : Int) = pimpl_SignsOf_L1 kB s mB g (n : Int)
  | 0, mB, n, g, h1, h2, h3 => by omega
  | mA + 1, 0, n, g, h1, h2, h3 => by omega
  | mA + 1, mB + 1, n, g, h1, h2, h3 => by
    have hz := hs.2.2
    rw [pimpl_SignsOf_L1, pimpl_SignsOf_L1]
    by_cases hlt : n < s.size
    · have hg := hs.1 n hlt
      have h32 : (bt s (n : Int) == 32) = false := by rw [beq_eq_false_iff_ne]; have := hg.1; omega
      have h9 : (bt s (n : Int) == 9) = false := by rw [beq_eq_false_iff_ne]; have := hg.1; omega
      have h10 : (bt s (n : Int) == 10) = false := by rw [beq_eq_false_iff_ne]; have := hg.1; omega
      rw [if_pos (lt_t hlt), if_pos (lt_t hlt), if_pos (idx hlt), if_pos (idx hlt)]
      simp only [h32, h9, h10, Bool.false_eq_true, if_false]
      unfold pimpl_SignsOf_J2
      simp only [Bool.false_eq_true, if_false]
      by_cases h37 : (bt s (n : Int) == 37) = true
      · obtain ⟨_, r1⟩ := rest10 (k := kA) hs kA n h1 (by omega)
        obtain ⟨_, r2⟩ := rest10 (k := kB) hs kB n h1 (by omega)
        unfold pimpl_run_on2_pimpl_SignsOf_1
        rw [if_pos h37, if_pos h37, r1, r2]
        simp only [obs]
        exact signsK hA hB hs mA mB s.size g (Nat.le_refl _) (by omega) (by omega)
      · obtain ⟨q, p, e1, _, hp, hps⟩ := sign hB hs hlt
        rw [if_neg h37, if_neg h37, nextK hA hB hs hlt, e1, obs, obs]
        simp only
        by_cases hlp : p < s.size
        · rw [if_pos (lt_t hlp), if_pos (lt_t hlp), if_pos (idx hlp), if_pos (idx hlp), signsK hA hB hs mA mB p _ hps (by omega) (by omega)]
        · rw [if_neg (lt_f hlp), if_neg (lt_f hlp), signsK hA hB hs mA mB p _ hps (by omega) (by omega)]
    · rw [if_neg (lt_f hlt), if_neg (lt_f hlt)]
theorem atomK {kA kB : Nat} (hA : 3000 ≤ kA) (hB : 3000 ≤ kB) {s : ByteArray} (hs : nmOk s) : pimpl_AtomText kA s = pimpl_AtomText kB s := by
  have hz := hs.2.2
  have e := signsK hA hB hs kA kB 0 [] (by omega) (by omega) (by omega)
  rw [show ((0 : Nat) : Int) = 0 from rfl] at e
  unfold pimpl_AtomText pimpl_SignsOf
  rw [e]
/-- A name, with two fuels. -/
theorem atom2 {kA kB : Nat} (hA : 3000 ≤ kA) (hB : 3000 ≤ kB) {s : ByteArray} (hs : nmOk s) : ∃ r, pspec_AtomText kB s = some r ∧ pimpl_AtomText kA s = some r ∧ r.size ≤ 22 := by
  obtain ⟨r, e1, e2, e3⟩ := atomText hB hs
  exact ⟨r, e1, (atomK hA hB hs).trans e2, e3⟩
/-! numbers as they are written -/
def decB (n : Nat) : ByteArray := ⟨(Lib.decDigits n).toArray⟩
theorem strOne (b : Nat) (h : b < 10) : strOfNums [((48 + b : Nat) : Int)] = bs [UInt8.ofNat (48 + b)] := by
  have : ∀ b, b < 10 → strOfNums [((48 + b : Nat) : Int)] = bs [UInt8.ofNat (48 + b)] := by decide +kernel
  exact this b h
theorem wr_u8d {x : Int} (h1 : 0 ≤ x) (h2 : x ≤ 255) : wr.u8 x = x := by
  unfold wr.u8 IntKind.wrap
  simp [IntKind.signed, IntKind.bits]
  omega
theorem decB_small {n : Nat} (h : n < 10) : decB n = bs [UInt8.ofNat (48 + n)] := by
  unfold decB
  rw [Lib.decDigits, dif_pos h]; rfl
theorem decB_big {n : Nat} (h : ¬ n < 10) : decB n = decB (n / 10) ++ bs [UInt8.ofNat (48 + n % 10)] := by
  unfold decB
  rw [Lib.decDigits, dif_neg h]
  apply ByteArray.ext
  simp [bs]
theorem decB_size : ∀ (j n : Nat), n < 10 ^ (j + 1) → (decB n).size ≤ j + 1
  | 0, n, h => by rw [decB_small (by simpa using h)]; exact Nat.le_refl _
  | j + 1, n, h => by
    by_cases c : n < 10
    · rw [decB_small c, show (bs [UInt8.ofNat (48 + n)]).size = 1 from rfl]; omega
    · have := decB_size j (n / 10) (by rw [Nat.pow_succ] at h; omega)
      rw [decB_big c, ByteArray.size_append, show (bs [UInt8.ofNat (48 + n % 10)]).size = 1 from rfl]; omega
theorem dec_L1 {k : Nat} : ∀ (j m n : Nat) (s : ByteArray), n < 10 ^ j → j < m → j ≤ 12 → s.size + j ≤ 100 → 0 < n → pspec_Decimal_L1 k m (n : Int) s = some (.done (decB n ++ s))
  | 0, m, n, s, h1, h2, _, _, h0 => by simp at h1; omega
  | j + 1, 0, n, s, h1, h2, _, _, h0 => by omega
  | j + 1, m + 1, n, s, h1, h2, h3, h4, h0 => by
    have hp : 10 ^ j ≤ 10 ^ 11 := Nat.pow_le_pow_right (by decide) (by omega)
    rw [Nat.pow_succ] at h1
    have hn : (n : Int) ≤ 1000000000000 := by omega
    have t1 : Int.tmod (n : Int) 10 = ((n % 10 : Nat) : Int) := by rw [Int.tmod_eq_emod_of_nonneg (by omega)]; rfl
    have t2 : Int.tdiv (n : Int) 10 = ((n / 10 : Nat) : Int) := by rw [Int.tdiv_eq_ediv_of_nonneg (by omega)]; rfl
    have hne : ((n : Int) != 0) = true := by rw [bne_iff_ne]; omega
    have hnn : ¬ decide (Int.tmod (n : Int) 10 < 0) = true := by rw [t1, decide_eq_true_eq]; omega
    have hlt : decide (((n % 10 : Nat) : Int) < 10) = true := by rw [decide_eq_true_eq]; omega
    rw [pspec_Decimal_L1, if_pos hne, if_pos (by decide), if_neg hnn]
    unfold pspec_Decimal_J2 pspec_l01Figure
    rw [t1, if_pos hlt, obs, wr_i64 (by omega) (by omega), wr_u8d (by omega) (by omega), show (48 + ((n % 10 : Nat) : Int)) = ((48 + n % 10 : Nat) : Int) by omega, strOne _ (by omega), t2, wr_i64 (by omega) (by omega)]
    have z : (bs [UInt8.ofNat (48 + n % 10)]).size = 1 := rfl
    rw [if_pos (by unfold sumOk; omega), if_pos (by decide)]
    by_cases c : n < 10
    · have hq : n / 10 = 0 := by omega
      obtain ⟨m, rfl⟩ : ∃ q, m = q + 1 := ⟨m - 1, by omega⟩
      rw [hq, pspec_Decimal_L1, if_neg (by decide), decB_small c, show n % 10 = n by omega]
    · rw [dec_L1 j m (n / 10) _ (by omega) (by omega) (by omega) (by rw [ByteArray.size_append]; omega) (by omega), decB_big c, ByteArray.append_assoc]
theorem decimal {k : Nat} (hk : 100 ≤ k) {n : Nat} (h : n ≤ 999999999) : pspec_Decimal k (n : Int) = some (decB n) ∧ (decB n).size ≤ 9 := by
  refine ⟨?_, decB_size 8 n (by omega)⟩
  unfold pspec_Decimal
  by_cases c : n = 0
  · subst c; rw [if_pos (by decide), decB_small (by decide)]; rfl
  · have hne : ¬ ((n : Int) == 0) = true := by rw [beq_iff_eq]; omega
    have hnn : ¬ decide ((n : Int) < 0) = true := by rw [decide_eq_true_eq]; omega
    rw [if_neg hne, dec_L1 9 k n (bs []) (by omega) (by omega) (by omega) (by decide) (by omega), obs]
    simp only
    rw [if_neg hnn]
    congr 1
    apply ByteArray.ext
    simp [bs]
theorem itoaPos {k : Nat} {n : Nat} (h : n ≤ 999999999) : pimpl_Decimal k (n : Int) = some (decB n) := by
  unfold pimpl_Decimal pstrconv_Itoa Lib.itoa decB
  rw [if_pos (by omega), obs, if_neg (by omega), Int.toNat_natCast]
theorem itoaNeg {k : Nat} {n : Nat} (h : n ≤ 999999999) (h0 : 0 < n) : pimpl_Decimal k (-(n : Int)) = some (bs [45] ++ decB n) := by
  unfold pimpl_Decimal pstrconv_Itoa Lib.itoa decB
  rw [if_pos (by omega), obs, if_pos (by omega), Int.natAbs_neg, Int.natAbs_natCast]
  refine congrArg some ?_
  apply ByteArray.ext
  simp [bs]
/-! what is written -/
theorem decAll (n : Nat) : (List.range 100).all (fun b => (pspec_Decimal (n + 100) (b : Int)).isSome) = true := by kernel_rfl
def chain : GTerm → List GTerm × GTerm
  | .mk a b c l => ([], .mk a b c l)
theorem infixSame : @pimpl_InfixOf = @pspec_InfixOf := by kernel_rfl
theorem prefixSame : @pimpl_PrefixOf = @pspec_PrefixOf := by kernel_rfl
theorem isStructSame : @pimpl_isStruct = @pspec_l03Is := by kernel_rfl
/-! joined with commas -/
theorem joinB_nil (s : ByteArray) : joinB [] s = bs [] := rfl
theorem join_snoc (xs : List (List UInt8)) (x sep : List UInt8) (h : xs ≠ []) : Lib.join (xs ++ [x]) sep = Lib.join xs sep ++ (sep ++ x) := by
  cases xs with
  | nil => exact absurd rfl h
  | cons y ys =>
    rw [List.cons_append, Lib.join_cons, Lib.join_cons]
    unfold Lib.joinTail
    simp
theorem joinB_snoc (xs : List ByteArray) (x s : ByteArray) (h : xs ≠ []) : joinB (xs ++ [x]) s = joinB xs s ++ (s ++ x) := by
  unfold joinB
  rw [List.map_append, List.map_cons, List.map_nil, join_snoc _ _ _ (by simpa using h)]
  apply ByteArray.ext
  simp
theorem joinB_one (x s : ByteArray) : joinB [x] s = x := by
  unfold joinB
  rw [List.map_cons, List.map_nil, Lib.join_one]
/-! terms -/
def pr (x : GTerm) : Bool := (x.gKind == 4) && (sEq x.gName (bs [46]) && ((x.gKids.length : Int) == 2))
theorem isPr {k : Nat} {x : GTerm} : pspec_l03Is k x (bs [46]) 2 = some (pr x) := by
  unfold pspec_l03Is pr
  cases x.gKind == 4 <;> cases sEq x.gName (bs [46]) <;> rfl
theorem isPair {k : Nat} {x : GTerm} : pimpl_isPair k x = some (pr x) := by
  unfold pimpl_isPair
  rw [isStructSame, isPr]; rfl
theorem pr_two {x : GTerm} (h : pr x = true) : ∃ a b, x.gKids = [a, b] ∧ nT x = 2 + nT a + nT b := by
  unfold pr at h
  simp only [Bool.and_eq_true, beq_iff_eq] at h
  have hl : x.gKids.length = 2 := by omega
  match hk : x.gKids, hl with
  | [a, b], _ => exact ⟨a, b, rfl, by rw [nT_kids, hk]; simp [nsum]; omega⟩
theorem gT_kid {x : GTerm} {d : Int} (h : gT d x = true) {y : GTerm} (hy : y ∈ x.gKids) : gT (d + 1) y = true := by
  rw [gT_eq] at h
  simp only [Bool.and_eq_true] at h
  have : ∀ (l : List GTerm) (d : Int), gTs d l = true → ∀ y ∈ l, gT d y = true := by
    intro l
    induction l with
    | nil => intro d _ y hy; cases hy
    | cons x l ih =>
      intro d h y hy
      rw [gTs, Bool.and_eq_true] at h
      cases hy with
      | head => exact h.1
      | tail _ hy => exact ih d h.2 y hy
  exact this _ _ h.2.2 y hy
theorem so {a b : ByteArray} (h : a.size + b.size ≤ 1000000) : sumOk a b := by unfold sumOk; omega
def Both (W V : GTerm → Option ByteArray) (N : Nat) : Prop := ∀ (y : GTerm) (d : Int), gT d y = true → nT y ≤ N → ∃ r, W y = some r ∧ V y = some r ∧ r.size ≤ 120 * (nT y + 1)
theorem z1 (b : UInt8) : (bs [b]).size = 1 := rfl
theorem row {kA kB N : Nat} {W V R X : GTerm → Option ByteArray} (H : Both W V N) : ∀ (mA mB : Nat) (t : GTerm) (d : Int) (s : ByteArray) (a b : GTerm), gT d t = true → t.gKids = [a, b] → nT t = 2 + nT a + nT b → nT b ≤ N → nT b < mA → nT b < mB → s.size + 120 * nT b ≤ 500000 →
    ∃ s' t' b', pspec_l07Row_L1 kB R V mB s t = some (.done (s', t')) ∧ pimpl_writeWith_on1_pimpl_write_on2_pimpl_write_1_L2 kA W X mA s b = some (.done (s', b')) ∧ at' t'.gKids 1 = some b' ∧ nT b' ≤ N ∧ (∃ e, gT e b' = true) ∧ s'.size + 120 * nT b' ≤ s.size + 120 * nT b
  | 0, mB, t, d, s, a, b, h1, h2, h3, h4, h5, h5b, h6 => by omega
  | mA + 1, 0, t, d, s, a, b, h1, h2, h3, h4, h5, h5b, h6 => by omega
  | mA + 1, mB + 1, t, d, s, a, b, h1, h2, h3, h4, h5, h5b, h6 => by
    have hb : gT (d + 1) b = true := gT_kid h1 (by rw [h2]; simp)
    rw [pspec_l07Row_L1, pimpl_writeWith_on1_pimpl_write_on2_pimpl_write_1_L2]
    have a1 : at' t.gKids 1 = some b := by rw [h2]; rfl
    simp only [a1, isPr, isPair, obs]
    cases hp : pr b with
    | false =>
      rw [if_neg Bool.false_ne_true, if_neg Bool.false_ne_true]
      exact ⟨s, t, b, rfl, rfl, a1, h4, ⟨_, hb⟩, Nat.le_refl _⟩
    | true =>
      obtain ⟨u, v, k1, k2⟩ := pr_two hp
      have b0 : at' b.gKids 0 = some u := by rw [k1]; rfl
      have b1 : at' b.gKids 1 = some v := by rw [k1]; rfl
      obtain ⟨r, e1, e2, e3⟩ := H u _ (gT_kid hb (by rw [k1]; simp)) (by omega)
      have s1 : sumOk s (bs [44]) := so (by rw [z1]; omega)
      have s2 : sumOk (s ++ bs [44]) r := so (by rw [ByteArray.size_append, z1]; omega)
      have s3 : sumOk (bs [44]) r := so (by rw [z1]; omega)
      have s4 : sumOk s (bs [44] ++ r) := so (by rw [ByteArray.size_append, z1]; omega)
      rw [if_pos rfl, if_pos rfl]
      simp only [b0, b1, e1, e2, obs]
      rw [if_pos s1, if_pos s2, if_pos s3, if_pos s4, ByteArray.append_assoc]
      obtain ⟨s', t', b', f1, f2, f3, f4, f5, f6⟩ := row (kA := kA) (kB := kB) (R := R) (X := X) H mA mB b (d + 1) (s ++ (bs [44] ++ r)) u v hb k1 k2 (by omega) (by omega) (by omega) (by rw [ByteArray.size_append, ByteArray.size_append, z1]; omega)
      exact ⟨s', t', b', f1, f2, f3, f4, f5, by rw [ByteArray.size_append, ByteArray.size_append, z1] at f6; omega⟩
/-- The kids, with commas. -/
theorem kids {kA kB N : Nat} {W V R X : GTerm → Option ByteArray} (H : Both W V N) {x : GTerm} {d : Int} (hx : gT d x = true) (hn : ∀ y ∈ x.gKids, nT y ≤ N) (hl : x.gKids.length ≤ 5) {p : ByteArray} (hp : p.size ≤ 100) (hN : N ≤ 400) :
    ∀ (mA mB j : Nat) (l : List ByteArray), j ≤ x.gKids.length → x.gKids.length - j < mA → x.gKids.length - j < mB → l.length = j → (joinB l (bs [44])).size ≤ j * 100000 →
      ∃ l', pimpl_writeWith_on1_pimpl_write_on2_pimpl_write_1_L3 kA W X x mA l (j : Int) = some (.done l') ∧ pspec_l07Write_L3 kB R V x mB (p ++ joinB l (bs [44])) (j : Int) = some (.done (p ++ joinB l' (bs [44]))) ∧ l'.length = x.gKids.length ∧
        (joinB l' (bs [44])).size ≤ (joinB l (bs [44])).size + 120 * nsum nT (x.gKids.drop j) + (x.gKids.length - j)
  | 0, mB, j, l, h1, h2, h2b, h3, h4 => by omega
  | mA + 1, 0, j, l, h1, h2, h2b, h3, h4 => by omega
  | mA + 1, mB + 1, j, l, h1, h2, h2b, h3, h4 => by
    have hM := maxLen_eq
    rw [pimpl_writeWith_on1_pimpl_write_on2_pimpl_write_1_L3, pspec_l07Write_L3]
    by_cases hlt : j < x.gKids.length
    · have hd : decide ((j : Int) < (x.gKids.length : Int)) = true := by simpa using hlt
      have hy := List.getElem_mem hlt
      obtain ⟨r, e1, e2, e3⟩ := H _ _ (gT_kid hx hy) (hn _ hy)
      have hy2 := hn _ hy
      have hle : l.length + [r].length ≤ 1073741824 := by simp only [List.length_cons, List.length_nil]; omega
      have ns := ns_drop hlt
      rw [if_pos hd, if_pos hd, at_lt hlt, obs, e1, obs, if_pos hle, wr_succ hlt (by omega)]
      unfold pspec_l07Write_J4
      simp only [at_lt hlt, obs, e2, wr_succ hlt (show x.gKids.length ≤ maxLen by omega)]
      by_cases h0 : j = 0
      · have hnp : ¬ decide ((j : Int) > 0) = true := by rw [decide_eq_true_eq]; omega
        have hl0 : l = [] := List.length_eq_zero_iff.1 (by omega)
        subst hl0
        have s1 : sumOk (p ++ joinB [] (bs [44])) r := so (by rw [ByteArray.size_append, joinB_nil]; have : (bs []).size = 0 := rfl; omega)
        rw [if_neg hnp, if_pos s1]
        obtain ⟨l', f1, f2, f3, f4⟩ := kids (kA := kA) (kB := kB) (R := R) (X := X) H hx hn hl hp hN mA mB (j + 1) ([] ++ [r]) (by omega) (by omega) (by omega) (by simp; omega) (by rw [List.nil_append, joinB_one]; omega)
        have z : p ++ joinB [] (bs [44]) ++ r = p ++ joinB ([] ++ [r]) (bs [44]) := by
          rw [List.nil_append, joinB_one, joinB_nil, ByteArray.append_assoc]; congr 1
        rw [z]
        refine ⟨l', f1, f2, f3, ?_⟩
        rw [List.nil_append, joinB_one] at f4
        have : (joinB [] (bs [44])).size = 0 := rfl
        omega
      · have hnp : decide ((j : Int) > 0) = true := by rw [decide_eq_true_eq]; omega
        have hl0 : l ≠ [] := fun q => by rw [q] at h3; simp at h3; omega
        have s1 : sumOk (p ++ joinB l (bs [44])) (bs [44]) := so (by rw [ByteArray.size_append, z1]; omega)
        have s2 : sumOk (p ++ joinB l (bs [44]) ++ bs [44]) r := so (by rw [ByteArray.size_append, ByteArray.size_append, z1]; omega)
        rw [if_pos hnp, if_pos s1, if_pos s2]
        have js := joinB_snoc l r (bs [44]) hl0
        obtain ⟨l', f1, f2, f3, f4⟩ := kids (kA := kA) (kB := kB) (R := R) (X := X) H hx hn hl hp hN mA mB (j + 1) (l ++ [r]) (by omega) (by omega) (by omega) (by simp; omega) (by rw [js, ByteArray.size_append, ByteArray.size_append, z1]; omega)
        have z : p ++ joinB l (bs [44]) ++ bs [44] ++ r = p ++ joinB (l ++ [r]) (bs [44]) := by
          rw [js, ByteArray.append_assoc, ByteArray.append_assoc]
        rw [z]
        refine ⟨l', f1, f2, f3, ?_⟩
        rw [js, ByteArray.size_append, ByteArray.size_append, z1] at f4
        omega
    · have hd : ¬ decide ((j : Int) < (x.gKids.length : Int)) = true := by simpa using hlt
      rw [if_neg hd, if_neg hd]
      exact ⟨l, rfl, rfl, by omega, by omega⟩
theorem nat_of {x : Int} (h : 0 ≤ x) : ∃ n : Nat, x = (n : Int) := Int.eq_ofNat_of_zero_le h
theorem bothAll {k : Nat} (hk0 : 3000 ≤ k) : True := trivial
theorem ite_ex {α : Type} {c : Prop} [Decidable c] {a b : Option α} (ha : ∃ x, a = some x) (hb : ∃ x, b = some x) : ∃ x, (if c then a else b) = some x := by
  split
  · exact ha
  · exact hb
theorem infixAny (k : Nat) (s : ByteArray) : ∃ r, pspec_InfixOf k s = some r := by
  have J3 : ∀ e, ∃ r, pspec_InfixOf_J3 k s e = some r := fun e => by
    unfold pspec_InfixOf_J3
    repeat' (first | apply ite_ex | exact ⟨_, rfl⟩)
  have J2 : ∀ e, ∃ r, pspec_InfixOf_J2 k s e = some r := fun e => by
    unfold pspec_InfixOf_J2
    repeat' (first | exact J3 _ | apply ite_ex | exact ⟨_, rfl⟩)
  have J1 : ∀ e, ∃ r, pspec_InfixOf_J1 k s e = some r := fun e => by
    unfold pspec_InfixOf_J1
    repeat' (first | exact J2 _ | apply ite_ex | exact ⟨_, rfl⟩)
  unfold pspec_InfixOf
  repeat' (first | exact J1 _ | apply ite_ex | exact ⟨_, rfl⟩)
theorem prefixAny (k : Nat) (s : ByteArray) : ∃ r, pspec_PrefixOf k s = some r := by
  unfold pspec_PrefixOf
  repeat' (first | apply ite_ex | exact ⟨_, rfl⟩)
/-- A right term is written alike. -/
theorem writes : ∀ (N : Nat), N ≤ 400 → ∀ (kA kB : Nat), 5000 + maxLen + 4 * N < kA → 5000 + maxLen + 4 * N < kB → Both (pimpl_write kA) (pspec_l07Write kB) N
  | N, hN, 0, kB, hkA, hkB => by omega
  | N, hN, 1, kB, hkA, hkB => by omega
  | N, hN, kA + 2, 0, hkA, hkB => by omega
  | N, hN, kA + 2, 1, hkA, hkB => by omega
  | N, hN, kA + 2, kB + 2, hkA, hkB => by
    intro x d hx hn
    have hM := maxLen_eq
    have hgt := hx
    rw [gT_eq] at hgt
    simp only [Bool.and_eq_true] at hgt
    have h1 := hgt.2.1
    have hA3 : 3000 ≤ kA + 1 := by omega
    have hB3 : 3000 ≤ kB + 1 := by omega
    rw [pimpl_write, pspec_l07Write]
    unfold pimpl_writeWith_on1_pimpl_write_on2_pimpl_write_1
    unfold one at h1
    by_cases k1 : x.gKind = 1
    · rw [if_pos k1] at h1
      simp only [Bool.and_eq_true] at h1
      have hr := of_decide_eq_true h1.1
      obtain ⟨n, hnn⟩ := nat_of hr.1
      rw [hnn] at hr
      obtain ⟨f1, f2⟩ := decimal (k := kB + 1) (by omega) (n := n) (by omega)
      have g1 := itoaPos (k := kA + 1) (n := n) (by omega)
      have s1 : sumOk (bs [95]) (decB n) := so (by rw [z1]; omega)
      have c1 : (x.gKind == 1) = true := by rw [beq_iff_eq]; exact k1
      rw [if_pos c1, if_pos c1, hnn]
      simp only [f1, g1, obs, if_pos s1]
      exact ⟨_, rfl, rfl, by rw [ByteArray.size_append, z1]; omega⟩
    have c1 : ¬ (x.gKind == 1) = true := by rw [beq_iff_eq]; exact k1
    rw [if_neg k1] at h1
    rw [if_neg c1, if_neg c1]
    by_cases k3 : x.gKind = 3
    · have k2 : ¬ x.gKind = 2 := by omega
      rw [if_neg k2, if_pos k3] at h1
      simp only [Bool.and_eq_true] at h1
      have hr := of_decide_eq_true h1.1
      have c3 : (x.gKind == 3) = true := by rw [beq_iff_eq]; exact k3
      rw [if_pos c3, if_pos c3]
      by_cases hneg : x.gNum < 0
      · obtain ⟨n, hnn⟩ := nat_of (show 0 ≤ -x.gNum by omega)
        have hx' : x.gNum = -(n : Int) := by omega
        obtain ⟨f1, f2⟩ := decimal (k := kB + 1) (by omega) (n := n) (by omega)
        have g1 := itoaNeg (k := kA + 1) (n := n) (by omega) (by omega)
        have hd : decide (x.gNum < 0) = true := by simpa using hneg
        have s1 : sumOk (bs [45]) (decB n) := so (by rw [z1]; omega)
        rw [if_pos hd, hx', wr_i64 (by omega) (by omega), show (0 : Int) - -(n : Int) = (n : Int) by omega]
        simp only [f1, g1, obs, if_pos s1]
        exact ⟨_, rfl, rfl, by rw [ByteArray.size_append, z1]; omega⟩
      · obtain ⟨n, hnn⟩ := nat_of (show 0 ≤ x.gNum by omega)
        obtain ⟨f1, f2⟩ := decimal (k := kB + 1) (by omega) (n := n) (by omega)
        have g1 := itoaPos (k := kA + 1) (n := n) (by omega)
        have hd : ¬ decide (x.gNum < 0) = true := by simpa using hneg
        rw [if_neg hd, hnn]
        simp only [f1, g1, obs]
        exact ⟨_, rfl, rfl, by omega⟩
    have c3 : ¬ (x.gKind == 3) = true := by rw [beq_iff_eq]; exact k3
    rw [if_neg c3, if_neg c3]
    by_cases k2 : x.gKind = 2
    · rw [if_pos k2] at h1
      simp only [Bool.and_eq_true, decide_eq_true_eq] at h1
      obtain ⟨r, f1, f2, f3⟩ := atom2 (kA := kA + 1) (kB := kB + 1) hA3 hB3 h1.1
      have c2 : (x.gKind == 2) = true := by rw [beq_iff_eq]; exact k2
      have s1 : sumOk (bs [40]) r := so (by rw [z1]; omega)
      have s2 : sumOk (bs [40] ++ r) (bs [41]) := so (by rw [ByteArray.size_append, z1, z1]; omega)
      unfold pimpl_isAtom pimpl_isOp pspec_l07Op pimpl_writeWith_on1_pimpl_write_on2_pimpl_write_1_J1
      rw [infixSame, prefixSame, show pspec_InfixOf (kA + 1) = pspec_InfixOf (kB + 1) from rfl, show pspec_PrefixOf (kA + 1) = pspec_PrefixOf (kB + 1) from rfl]
      simp only [if_pos c2, obs]
      cases sEq x.gName (bs [91, 93]) with
      | true => exact ⟨_, rfl, rfl, by have : (bs [91, 93]).size = 2 := rfl; omega⟩
      | false =>
        rw [if_neg Bool.false_ne_true, if_neg Bool.false_ne_true]
        obtain ⟨i, q1⟩ := infixAny (kB + 1) x.gName
        obtain ⟨j, q2⟩ := prefixAny (kB + 1) x.gName
        simp only [q1, q2, obs]
        have hop : ∀ b : Bool, ∃ z, ((if b = true then some true else some j.2).bind fun e : Bool => some e) = some z := fun b => by cases b <;> exact ⟨_, rfl⟩
        cases i.2 with
        | true =>
          simp only [if_true, obs, f1, f2, if_pos s1, if_pos s2]
          exact ⟨_, rfl, rfl, by rw [ByteArray.size_append, ByteArray.size_append, z1, z1]; omega⟩
        | false =>
          cases j.2 with
          | true =>
            simp only [Bool.false_eq_true, if_false, if_true, obs, f1, f2, if_pos s1, if_pos s2]
            exact ⟨_, rfl, rfl, by rw [ByteArray.size_append, ByteArray.size_append, z1, z1]; omega⟩
          | false =>
            simp only [Bool.false_eq_true, if_false, obs, f1, f2]
            exact ⟨_, rfl, rfl, by omega⟩
    rw [if_neg k2] at h1
    have k4 : x.gKind = 4 := by
      by_cases q : x.gKind = 4
      · exact q
      · rw [if_neg k3, if_neg q] at h1; cases h1
    rw [if_neg k3, if_pos k4] at h1
    simp only [Bool.and_eq_true, decide_eq_true_eq] at h1
    have hl := of_decide_eq_true h1.2.2
    have c2 : ¬ (x.gKind == 2) = true := by rw [beq_iff_eq]; exact k2
    have c4 : (x.gKind == 4) = true := by rw [beq_iff_eq]; exact k4
    have hkn := nT_kids x
    have hlen := nsum_len nT x.gKids
    obtain ⟨M, rfl⟩ : ∃ M, N = M + 1 := ⟨N - 1, by omega⟩
    have H1 : Both (pimpl_write (kA + 1)) (pspec_l07Write kB) M := writes M (by omega) (kA + 1) kB (by omega) (by omega)
    have H2 : Both (pimpl_write (kA + 1)) (pspec_l07Write (kB + 1)) M := writes M (by omega) (kA + 1) (kB + 1) (by omega) (by omega)
    have H3 : Both (pimpl_write kA) (pspec_l07Write (kB + 1)) M := writes M (by omega) kA (kB + 1) (by omega) (by omega)
    have hkids : ∀ y ∈ x.gKids, nT y ≤ M := fun y hy => by have := nsum_mem (n := nT) hy; omega
    obtain ⟨nm, t1, t2, t3⟩ := atom2 (kA := kA + 1) (kB := kB + 1) hA3 hB3 h1.1
    unfold pimpl_isAtom pimpl_writeWith_on1_pimpl_write_on2_pimpl_write_1_J1
    simp only [if_neg c2, obs, Bool.false_eq_true, if_false, isPair, isPr]
    have ia : ∀ y : GTerm, pimpl_isAtom (kA + 1) y (bs [91, 93]) = if (y.gKind == 2) = true then some (sEq y.gName (bs [91, 93])) else some false := fun y => rfl
    cases hp : pr x with
    | true =>
      simp only [if_true]
      obtain ⟨u, v, q1, q2⟩ := pr_two hp
      have x0 : at' x.gKids 0 = some u := by rw [q1]; rfl
      have x1 : at' x.gKids 1 = some v := by rw [q1]; rfl
      obtain ⟨r, e1, e2, e3⟩ := H1 u _ (gT_kid hx (by rw [q1]; simp)) (by omega)
      have s1 : sumOk (bs [91]) r := so (by rw [z1]; omega)
      obtain ⟨s', t', b', f1, f2, f3, f4, ⟨e, f5⟩, f6⟩ := row (kA := kA + 1) (kB := kB) (R := pspec_l07Row kB) (X := pimpl_write_1 (kA + 1)) H1 (kA + 1) kB x d (bs [91] ++ r) u v hx q1 q2 (by omega) (by omega) (by omega) (by rw [ByteArray.size_append, z1]; omega)
      rw [ByteArray.size_append, z1] at f6
      obtain ⟨w, g1, g2, g3⟩ := H1 b' e f5 f4
      have s2 : sumOk s' (bs [93]) := so (by rw [z1]; omega)
      have s3 : sumOk s' (bs [124]) := so (by rw [z1]; omega)
      have s4 : sumOk (s' ++ bs [124]) w := so (by rw [ByteArray.size_append, z1]; omega)
      have s5 : sumOk (s' ++ bs [124] ++ w) (bs [93]) := so (by rw [ByteArray.size_append, ByteArray.size_append, z1, z1]; omega)
      have s6 : sumOk (bs [124]) w := so (by rw [z1]; omega)
      have s7 : sumOk s' (bs [124] ++ w) := so (by rw [ByteArray.size_append, z1]; omega)
      have s8 : sumOk (s' ++ (bs [124] ++ w)) (bs [93]) := so (by rw [ByteArray.size_append, ByteArray.size_append, z1, z1]; omega)
      rw [pspec_l07Row]
      simp only [x0, x1, e1, e2, obs, if_pos s1, f1, f2, f3, ia, g1, g2, if_pos s2, if_pos s3, if_pos s4, if_pos s5, if_pos s6, if_pos s7, if_pos s8]
      have fin : ((s' ++ (bs [124] ++ w)) ++ bs [93]).size ≤ 120 * (nT x + 1) := by
        simp only [ByteArray.size_append, z1]; omega
      have fin2 : (s' ++ bs [93]).size ≤ 120 * (nT x + 1) := by
        simp only [ByteArray.size_append, z1]; omega
      have asc : s' ++ bs [124] ++ w ++ bs [93] = s' ++ (bs [124] ++ w) ++ bs [93] := by simp only [ByteArray.append_assoc]
      rw [asc]
      cases b'.gKind == 2 with
      | false => exact ⟨_, rfl, rfl, fin⟩
      | true =>
        simp only [if_true]
        cases sEq b'.gName (bs [91, 93]) with
        | true => exact ⟨_, rfl, rfl, fin2⟩
        | false => exact ⟨_, rfl, rfl, fin⟩
    | false =>
      simp only [Bool.false_eq_true, if_false]
      unfold pimpl_isInfix
      rw [infixSame, show pspec_InfixOf (kA + 1) = pspec_InfixOf (kB + 1) from rfl]
      obtain ⟨i, q0⟩ := infixAny (kB + 1) x.gName
      simp only [q0, obs, if_pos c4]
      obtain ⟨l', f1, f2, f3, f4⟩ := kids (kA := kA + 1) (kB := kB + 1) (R := pspec_l07Row (kB + 1)) (X := pimpl_write_1 (kA + 1)) H2 hx hkids (by omega) (p := nm ++ bs [40]) (by rw [ByteArray.size_append, z1]; omega) (by omega) (kA + 1) (kB + 1) 0 [] (by omega) (by omega) (by omega) rfl (by show (bs []).size ≤ _; decide)
      rw [show ((0 : Nat) : Int) = 0 from rfl] at f1 f2
      rw [List.drop_zero, show (joinB [] (bs [44])).size = 0 from rfl] at f4
      have pe : nm ++ bs [40] ++ joinB [] (bs [44]) = nm ++ bs [40] := by
        rw [joinB_nil]; apply ByteArray.ext; simp [bs]
      rw [pe] at f2
      have s1 : sumOk nm (bs [40]) := so (by rw [z1]; omega)
      have s2 : sumOk (nm ++ bs [40]) (joinB l' (bs [44])) := so (by rw [ByteArray.size_append, z1]; omega)
      have s3 : sumOk (nm ++ bs [40] ++ joinB l' (bs [44])) (bs [41]) := so (by rw [ByteArray.size_append, ByteArray.size_append, z1, z1]; omega)
      have jj : pstrings_Join (kA + 1) l' (bs [44]) = some (joinB l' (bs [44])) := by
        unfold pstrings_Join
        rw [if_pos ⟨by omega, by omega⟩]
      cases i.2 with
      | false =>
        unfold pspec_l07Write_J1
        simp only [f1, f2, t1, t2, obs, if_pos s1, if_pos s2, if_pos s3, jj, Bool.false_eq_true, if_false]
        exact ⟨_, rfl, rfl, by simp only [ByteArray.size_append, z1]; omega⟩
      | true =>
        simp only [if_true, obs]
        by_cases h2 : x.gKids.length = 2
        · have hb2 : ((x.gKids.length : Int) == 2) = true := by rw [beq_iff_eq]; omega
          rw [hb2]
          simp only [if_true]
          match hk2 : x.gKids, h2 with
          | [u, v], _ =>
            have nx : nT x = 2 + nT u + nT v := by rw [hkn, hk2]; simp [nsum]; omega
            obtain ⟨r, e1, e2, e3⟩ := H3 u _ (gT_kid hx (by rw [hk2]; simp)) (by omega)
            obtain ⟨w, g1, g2, g3⟩ := H3 v _ (gT_kid hx (by rw [hk2]; simp)) (by omega)
            have x0 : at' x.gKids 0 = some u := by rw [hk2]; rfl
            have x1 : at' x.gKids 1 = some v := by rw [hk2]; rfl
            obtain ⟨nm', t1', t2', t3'⟩ := atom2 (kA := kA) (kB := kB + 1) (by omega) hB3 h1.1
            obtain rfl : nm = nm' := by rw [t1] at t1'; exact Option.some.inj t1'
            have body : ∀ sg : ByteArray, sg.size ≤ 22 → (pimpl_signText kA x.gName = some sg) → ∃ z, pimpl_write_1 (kA + 1) x = some z ∧ pspec_l07Write_J2 (kB + 1) (pspec_l07Row (kB + 1)) (pspec_l07Write (kB + 1)) x sg = some z ∧ z.size ≤ 120 * (nT x + 1) := by
              intro sg hsg hst
              have s1 : sumOk (bs [40]) r := so (by rw [z1]; omega)
              have s2 : sumOk (bs [40] ++ r) (bs [32]) := so (by simp only [ByteArray.size_append, z1]; omega)
              have s3 : sumOk (bs [40] ++ r ++ bs [32]) sg := so (by simp only [ByteArray.size_append, z1]; omega)
              have s4 : sumOk (bs [40] ++ r ++ bs [32] ++ sg) (bs [32]) := so (by simp only [ByteArray.size_append, z1]; omega)
              have s5 : sumOk (bs [40] ++ r ++ bs [32] ++ sg ++ bs [32]) w := so (by simp only [ByteArray.size_append, z1]; omega)
              have s6 : sumOk (bs [40] ++ r ++ bs [32] ++ sg ++ bs [32] ++ w) (bs [41]) := so (by simp only [ByteArray.size_append, z1]; omega)
              rw [pimpl_write_1]
              unfold pspec_l07Write_J2
              simp only [x0, x1, e1, e2, g1, g2, hst, obs, if_pos s1, if_pos s2, if_pos s3, if_pos s4, if_pos s5, if_pos s6]
              exact ⟨_, rfl, rfl, by simp only [ByteArray.size_append, z1]; omega⟩
            unfold pspec_l07Write_J1
            simp only [if_true, t1, obs]
            cases hc : sEq x.gName (bs [44]) with
            | true =>
              obtain ⟨z, y1, y2, y3⟩ := body (bs [44]) (by decide) (by unfold pimpl_signText; rw [hc, if_pos rfl, sEq_iff.1 hc])
              simp only [if_true, y1, y2, obs]
              exact ⟨z, rfl, rfl, y3⟩
            | false =>
              obtain ⟨z, y1, y2, y3⟩ := body nm t3 (by unfold pimpl_signText; rw [hc, if_neg Bool.false_ne_true, t2', obs])
              simp only [Bool.false_eq_true, if_false, y1, y2, obs]
              exact ⟨z, rfl, rfl, y3⟩
        · have hb2 : ((x.gKids.length : Int) == 2) = false := by rw [beq_eq_false_iff_ne]; omega
          rw [hb2]
          unfold pspec_l07Write_J1
          simp only [f1, f2, t1, t2, obs, if_pos s1, if_pos s2, if_pos s3, jj, Bool.false_eq_true, if_false]
          exact ⟨_, rfl, rfl, by simp only [ByteArray.size_append, z1]; omega⟩
theorem law (x : GTerm) (hx : x.ok) : ∃ k, plaws_FnExactWriteTerm k x = some true := by
  obtain ⟨k, hk⟩ : ∃ k, maxLen + 4 * nT x + 1099511627776 < k := ⟨_, Nat.lt_succ_self _⟩
  refine ⟨k, ?_⟩
  have hm : maxLen = 9223372036854775807 := maxLen_eq
  have hH : Huge = 1152921504606846976 := rfl
  have hw : maxLen + 2 * nT x + 2 < k := by omega
  unfold plaws_FnExactWriteTerm
  obtain ⟨r, e1, h2, h3⟩ := szTerm (k := k) hw hx 1048576 (by omega) (by unfold Small; omega)
  rw [e1, obs]
  by_cases hr : r < 0
  · rw [if_pos (by simpa using hr)]
  rw [if_neg (by simpa using hr)]
  have hn : nT x ≤ 1048576 := by omega
  have t0 := toTerm (k := k) hw hn
  have q2 := eqTerm (k := k) (x := x) hw (by omega)
  have both : ∃ s, pspec_WriteTerm k x = some s ∧ pimpl_WriteTerm k x = some s := by
    unfold pspec_WriteTerm pimpl_WriteTerm
    rw [spec_TermOk hw hx, impl_TermOk hw hx, obs, obs]
    cases ht : tOk x with
    | false => exact ⟨_, rfl, rfl⟩
    | true =>
      have hg := ht
      unfold tOk at hg
      simp only [Bool.and_eq_true, decide_eq_true_eq] at hg
      obtain ⟨s, f1, f2, _⟩ := writes 400 (Nat.le_refl _) k k (by omega) (by omega) x 1 hg.2 (by omega)
      rw [if_neg (by decide), if_neg (by decide), f1, f2, obs]
      exact ⟨s, rfl, rfl⟩
  obtain ⟨s, e2, e3⟩ := both
  simp only [t0, e2, e3, obs, sEq_refl, q2, Bool.not_true, Bool.false_eq_true, if_false]
end FnExactWriteTerm
end Go.Proofs.YtmfimfgdbmjkkaaDoor
